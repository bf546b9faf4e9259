/- The law FnExactPixelsOk: for every list of lists of numbers the program's PixelsOk answers as the reference's and leaves its argument as it was. No condition. -/
import Derived.Test.YtnknolppoeacbaaG10
import Derived.Test.YtnknolppoeacbaaG12
import Derived.Test.YtnknolppoeacbaaG3
import Derived.Test.YtnknolppoeacbaaG8
import Derived.Test.YtnknolppoeacbaaG9
import Derived.Test.YtnknolppoeacbaaGLib
namespace Go.Proofs.Ytnknolppoeacbaa.G
open Go.RowKit Go.Proofs.YtnknolppoeacbaaW.PrintWords Go.Proofs.YtnknolppoeacbaaW.PrintLast Go.Proofs.YtnknolppoeacbaaW.PrintMore
attribute [local go_sem] max2_int min2_int max_two min_two max_three min_three max_four min_four   -- for this text's walks alone
set_option linter.unusedVariables false
set_option linter.unusedSimpArgs false

theorem pure_FnExactPixelsOk (l0 : List (List Int)) (hw : l0.length ≤ 9223372036854775807 ∧ ∀ x ∈ l0, x.length ≤ 9223372036854775807 ∧ ∀ y ∈ x, (Lit.int .i64 y).wf = true) : ∃ k, laws_FnExactPixelsOk.f k l0 = some true := by
  obtain ⟨r, hr, hr1, hr2⟩ := laws_szIntSS.ev l0 1048576 (by omega) (by omega) hw.1 (fun x hx => (hw.2 x hx).1)
  refine Ev.rounds ?_
  unfold laws_FnExactPixelsOk.f
  refine Ev.bind hr ?_
  by_cases h : r < 0
  · exact Ev.ip h (Ev.now _)
  · refine Ev.ng h ?_
    obtain ⟨h1, h2⟩ := hr2 (by omega)
    have hto : laws_toIntSS.f l0 = some l0 := by
      unfold laws_toIntSS.f
      rw [if_pos]
      simp only [fitSS, Bool.and_eq_true, decide_eq_true_eq, List.all_eq_true]
      exact ⟨by omega, fun x hx => by have := h2 x hx; omega⟩
    refine Ev.bind (Ev.c hto) (Ev.bind (spec_PixelsOk.ev l0) (Ev.bind (Ev.c hto) (Ev.bind (Ev.c rfl) ?_)))
    refine Ev.ng (by simp) (Ev.bind (Ev.c hto) (Ev.bind (laws_eqIntSS.ev _ _ (by omega) (fun x hx => by have := h2 x hx; omega)) (Ev.ip (by simp) (Ev.now _))))

theorem PureFnExactPixelsOk : ∀ (l0 : List (List Int)), (l0.length ≤ 9223372036854775807 ∧ ∀ x0_ ∈ l0, x0_.length ≤ 9223372036854775807 ∧ ∀ x1_ ∈ x0_, (Lit.int .i64 x1_).wf = true) → ∃ k, laws_FnExactPixelsOk.f k l0 = some true :=
  pure_FnExactPixelsOk
end Go.Proofs.Ytnknolppoeacbaa.G
