/- The law FnExactNearest: for all colours and every pixel the program's Nearest answers as the reference's and leaves its arguments as they were. No condition. -/
import Derived.Test.YtnknolppoeacbaaG10
import Derived.Test.YtnknolppoeacbaaG12
import Derived.Test.YtnknolppoeacbaaG15
import Derived.Test.YtnknolppoeacbaaG17
import Derived.Test.YtnknolppoeacbaaG22
import Derived.Test.YtnknolppoeacbaaG23
import Derived.Test.YtnknolppoeacbaaG5
import Derived.Test.YtnknolppoeacbaaG8
import Derived.Test.YtnknolppoeacbaaGLib
namespace Go.Proofs.Ytnknolppoeacbaa.G
open Go.RowKit Go.Proofs.YtnknolppoeacbaaW.PrintWords Go.Proofs.YtnknolppoeacbaaW.PrintLast Go.Proofs.YtnknolppoeacbaaW.PrintMore
attribute [local go_sem] max2_int min2_int max_two min_two max_three min_three max_four min_four   -- for this text's walks alone
set_option linter.unusedVariables false
set_option linter.unusedSimpArgs false

theorem pure_FnExactNearest (l0 : List (List Int)) (l1 : List Int) (hw : l0.length ≤ 9223372036854775807 ∧ ∀ x ∈ l0, x.length ≤ 9223372036854775807 ∧ ∀ y ∈ x, (Lit.int .i64 y).wf = true) (hw1 : l1.length ≤ 9223372036854775807 ∧ ∀ x ∈ l1, (Lit.int .i64 x).wf = true) : ∃ k, laws_FnExactNearest.f k l0 l1 = some true := by
  refine Ev.rounds ?_
  unfold laws_FnExactNearest.f
  by_cases hb : (l1.length : Int) > 1048576
  · exact Ev.ip hb (Ev.now _)
  refine Ev.ng hb ?_
  obtain ⟨r, hr, hr1, hr2⟩ := laws_szIntSS.ev l0 1048576 (by omega) (by omega) hw.1 (fun x hx => (hw.2 x hx).1)
  refine Ev.bind hr ?_
  by_cases h : r < 0
  · exact Ev.ip h (Ev.now _)
  · refine Ev.ng h ?_
    obtain ⟨h1, h2⟩ := hr2 (by omega)
    have hto := Ev.c (laws_toIntSS.val l0 h1 h2)
    have hti := laws_toIntS.E l1 (by omega)
    refine Ev.bind hto (Ev.bind hti (Ev.bind (spec_Nearest.ev l0 l1) (Ev.bind hto (Ev.bind hti (Ev.bind (impl_Nearest.ev l0 l1) (Ev.ip rfl ?_))))))
    refine Ev.bind hto (Ev.bind (laws_eqIntSS.ev _ _ (by omega) (fun x hx => by have := h2 x hx; omega)) (Ev.ip (by simp) ?_))
    exact Ev.bind hti (Ev.bind (laws_eqIntS.ev _ _ (by omega)) (Ev.ip (by simp) (Ev.now _)))

theorem PureFnExactNearest : ∀ (l0 : List (List Int)) (l1 : List Int), (l0.length ≤ 9223372036854775807 ∧ ∀ x0_ ∈ l0, x0_.length ≤ 9223372036854775807 ∧ ∀ x1_ ∈ x0_, (Lit.int .i64 x1_).wf = true) → (l1.length ≤ 9223372036854775807 ∧ ∀ x0_ ∈ l1, (Lit.int .i64 x0_).wf = true) → ∃ k, laws_FnExactNearest.f k l0 l1 = some true :=
  pure_FnExactNearest
end Go.Proofs.Ytnknolppoeacbaa.G
