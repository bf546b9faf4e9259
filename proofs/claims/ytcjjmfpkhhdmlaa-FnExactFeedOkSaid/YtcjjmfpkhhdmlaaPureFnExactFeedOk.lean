/- The law FnExactFeedOk: for every feed the program's FeedOk answers as the reference's and leaves its argument as it was. No condition. -/
import Derived.Test.YtcjjmfpkhhdmlaaG12
import Derived.Test.YtcjjmfpkhhdmlaaG137
import Derived.Test.YtcjjmfpkhhdmlaaG17
import Derived.Test.YtcjjmfpkhhdmlaaG20
import Derived.Test.YtcjjmfpkhhdmlaaG61
import Derived.Test.YtcjjmfpkhhdmlaaG64
import Derived.Test.YtcjjmfpkhhdmlaaG65
import Derived.Test.YtcjjmfpkhhdmlaaG66
import Derived.Test.YtcjjmfpkhhdmlaaG67
import Derived.Test.YtcjjmfpkhhdmlaaG68
import Derived.Test.YtcjjmfpkhhdmlaaGLib
import Derived.Test.YtcjjmfpkhhdmlaaGReader
namespace Go.Proofs.Ytcjjmfpkhhdmlaa.G
open Go.RowKit Go.Proofs.YtcjjmfpkhhdmlaaW.PrintWords Go.Proofs.YtcjjmfpkhhdmlaaW.PrintLast Go.Proofs.YtcjjmfpkhhdmlaaW.PrintMore
attribute [local go_sem] max2_int min2_int max_two min_two max_three min_three max_four min_four   -- for this text's walks alone
set_option linter.unusedVariables false
set_option linter.unusedSimpArgs false

theorem szFeed_val (l : List Int) (n : Int) (o : Bool) (fc fa : Int) (h : l.length ≤ 9223372036854775807) : laws_szFeed.f l n o fc fa 1048576 = some (if 1048576 < l.length then -1 else 1048576 - (l.length : Int)) := by
  unfold laws_szFeed.f laws_szByteS.f
  rw [wrap_in _ (by omega) (by omega)]
  by_cases hb : 1048576 < l.length
  · rw [if_pos (by omega), if_pos hb]; rfl
  · rw [if_neg (by omega), if_neg hb]
    simp only [Option.bind_some]
    rw [if_neg (by omega)]
theorem toFeed_ev (l : List Int) (n : Int) (o : Bool) (fc fa : Int) (h : l.length ≤ 1048576) : Ev (fun k => laws_toFeed.f k l n o fc fa) (l, n, o, fc, fa) := by
  unfold laws_toFeed.f
  exact Ev.bind (laws_toByteS.E l h) (Ev.bind (Ev.c rfl) (Ev.now _))
theorem eqFeed_ev (l : List Int) (n : Int) (o : Bool) (fc fa : Int) (h : l.length ≤ 1048576) : Ev (fun k => laws_eqFeed.f k l n o fc fa l n o fc fa) true := by
  unfold laws_eqFeed.f
  refine Ev.bind (laws_eqByteS.T l h) (Ev.ip rfl (Ev.ip rfl (Ev.ng (by simp) (Ev.bind (Ev.c (show laws_eqFault.f fc fa fc fa = some true by unfold laws_eqFault.f; rw [if_pos rfl, if_pos rfl])) (Ev.ip rfl (Ev.now _))))))
theorem pure_FnExactFeedOk (l : List Int) (n : Int) (o : Bool) (fc fa : Int) (hw : l.length ≤ 9223372036854775807 ∧ ∀ x ∈ l, (Lit.int .u8 x).wf = true) : ∃ k, laws_FnExactFeedOk.f k l n o fc fa = some true := by
  refine Ev.rounds ?_
  unfold laws_FnExactFeedOk.f
  refine Ev.bind (Ev.c (szFeed_val l n o fc fa hw.1)) ?_
  by_cases hb : 1048576 < l.length
  · rw [if_pos hb]
    exact Ev.ip (by decide) (Ev.now _)
  · rw [if_neg hb]
    have hB : isB l = true := by
      unfold isB
      simp only [List.all_eq_true, Bool.and_eq_true, decide_eq_true_eq]
      exact fun x hx => wf_u8 (hw.2 x hx)
    have ht := toFeed_ev l n o fc fa (by omega)
    refine Ev.ng (by omega) (Ev.bind ht (Ev.bind (spec_FeedOk.ev l n o fc fa hB) (Ev.bind ht (Ev.bind (Ev.c (show impl_FeedOk.f l n o fc fa = some (feedOkM l n o fc fa) by unfold impl_FeedOk.f; rw [if_pos ⟨hB, by omega⟩])) ?_))))
    refine Ev.ng (by simp) (Ev.bind ht (Ev.bind (eqFeed_ev l n o fc fa (by omega)) (Ev.ip rfl (Ev.now _))))
theorem PureFnExactFeedOk : ∀ (l : List Int) (n : Int) (o : Bool) (fc fa : Int), (l.length ≤ 9223372036854775807 ∧ ∀ x ∈ l, (Lit.int .u8 x).wf = true) → ∃ k, laws_FnExactFeedOk.f k l n o fc fa = some true :=
  pure_FnExactFeedOk

end Go.Proofs.Ytcjjmfpkhhdmlaa.G
