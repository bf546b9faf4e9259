-- Written by gp.py (a program of this session's, over the kit's print). Not trusted: Lean checks it.
import Derived.Test.YtcjjmfpkhhdmlaaG0h
import Derived.Test.YtcjjmfpkhhdmlaaG140
import Derived.Test.YtcjjmfpkhhdmlaaGReader
import Derived.Test.YtcjjmfpkhhdmlaaGeq0
import Derived.BigRegion
namespace Go.Proofs.Ytcjjmfpkhhdmlaa.G
open Go.RowKit Go.Proofs.YtcjjmfpkhhdmlaaW.PrintWords Go.Proofs.YtcjjmfpkhhdmlaaW.PrintLast Go.Proofs.YtcjjmfpkhhdmlaaW.PrintMore
attribute [local go_sem] max2_int min2_int max_two min_two max_three min_three max_four min_four   -- for this text's walks alone
set_option linter.unusedVariables false
set_option linter.unusedSimpArgs false

/-! ### impl_FeedOk: function 67 -/
--import Derived.BigRegion
attribute [local go_sem high] eqA65
/-- a feed is right -/
def feedOkM (l : List Int) (n : Int) (o : Bool) (fc fa : Int) : Bool :=
  if fc = 1 then (decide (l.length = 0) && decide (n = 0) && !o && decide (fa = 0)) else if 60000 < l.length then false
  else (decide (n = (feedM l).1) && (o == (feedM l).2.1) && (decide (fc = (feedM l).2.2.1) && decide (fa = (feedM l).2.2.2)))
def impl_FeedOk.f (l0 : List Int) (a1 : Int) (a2 : Bool) (a3 a4 : Int) : Option Bool := if isB l0 ∧ l0.length ≤ 1048576 then some (feedOkM l0 a1 a2 a3 a4) else none
set_option maxRecDepth 100000 in
set_option maxHeartbeats 4000000 in
theorem impl_FeedOk.calls (A0_0 : Option Addr) (c0_0 : Nat) (l0_0 : List Int) (a0_1 : Int) (a0_2 : Bool) (a0_3 : Int) (a0_4 : Int) (r : Bool) (w : World) (hr0_0 : Kd.C (Kd.int .u8) w A0_0 l0_0.length l0_0) (hc0_0 : l0_0.length ≤ c0_0) (h : impl_FeedOk.f l0_0 a0_1 a0_2 a0_3 a0_4 = some r) :
    Calls Try.prog 67 #[.agg #[.slice A0_0 l0_0.length c0_0, .int .i64 a0_1, .bool a0_2, .int .i64 a0_3, .int .i64 a0_4]] w fun e w' => e = .returned (.bool r) ∧ Below w.heap.size w w' := by
  unfold impl_FeedOk.f at h
  split at h
  · rename_i hcond
    obtain ⟨hbb, hlen⟩ := hcond
    have HBB := Aside0.mk hbb
    have HH := Aside0.mk (Option.some.inj h)
    have HR0 := Aside0.mk hr0_0
    have HC0 := Aside0.mk hc0_0
    clear h hr0_0 hc0_0 hbb
    go_enter Try.func67, Try.ntmps67
    go_upto_region 1 with (fail)
    have hq := blk_new w (Obj.cells #[.slice A0_0 l0_0.length c0_0, .int .i64 a0_1, .bool a0_2, .int .i64 a0_3, .int .i64 a0_4] 77)
    have HB1 := Aside0.mk (below_alloc (Below.refl w.heap.size w) (Obj.cells #[.slice A0_0 l0_0.length c0_0, .int .i64 a0_1, .bool a0_2, .int .i64 a0_3, .int .i64 a0_4] 77))
    generalize hgqe : w.heap.size = gq at hq ⊢
    generalize w.alloc (Obj.cells #[.slice A0_0 l0_0.length c0_0, .int .i64 a0_1, .bool a0_2, .int .i64 a0_3, .int .i64 a0_4] 77) = W1 at hq HB1 ⊢
    have HQ := Aside0.mk hq
    have q0 := blk_cell hq 0
    have q1 := blk_cell hq 1
    have q2 := blk_cell hq 2
    have q3 := blk_cell hq 3
    have q4 := blk_cell hq 4
    simp at q0 q1 q2 q3 q4
    clear hq hgqe
    by_cases h1 : a0_3 = 1
    · subst h1
      have HE := Aside0.mk (show (decide (l0_0.length = 0) && decide (a0_1 = 0) && !a0_2 && decide (a0_4 = 0)) = r by have := HH.out; rwa [feedOkM, if_pos rfl] at this)
      clear HH
      by_cases hL : l0_0.length = 0
      · have z1 : ((l0_0.length : Int) == 0) = true := by rw [beq_iff_eq]; omega
        have hL' := Aside0.mk hL
        clear hL
        by_cases hn : a0_1 = 0
        · subst hn
          cases a0_2 with
          | true =>
            go_wp2
            go_ret
            refine ⟨?_, HB1.out⟩
            have := HE.out
            rw [hL'.out] at this
            simp at this
            rw [← this]; rfl
          | false =>
            go_wp2
            go_ret
            refine ⟨?_, HB1.out⟩
            have := HE.out
            rw [hL'.out] at this
            simp at this
            rw [← this]; rfl
        · have z2 : (a0_1 == 0) = false := by rw [beq_eq_false_iff_ne]; exact hn
          go_wp2
          go_ret
          refine ⟨?_, HB1.out⟩
          have := HE.out
          simp [hn] at this
          rw [← this]; rfl
      · have z1 : ((l0_0.length : Int) == 0) = false := by rw [beq_eq_false_iff_ne]; omega
        go_wp2
        go_ret
        refine ⟨?_, HB1.out⟩
        have := HE.out
        rw [decide_eq_false hL] at this
        simp at this
        rw [← this]; rfl
    · have z3 : (a0_3 == 1) = false := by rw [beq_eq_false_iff_ne]; exact h1
      by_cases h60 : 60000 < l0_0.length
      · have z4 : decide ((60000 : Int) < (l0_0.length : Int)) = true := decide_eq_true (by omega)
        have hr := HH.out
        rw [feedOkM, if_neg h1, if_pos h60] at hr
        subst hr
        go_wp2
        go_ret
        exact ⟨rfl, HB1.out⟩
      · have z4 : decide ((60000 : Int) < (l0_0.length : Int)) = false := decide_eq_false (by omega)
        have HE := Aside0.mk (show (decide (a0_1 = (feedM l0_0).1) && (a0_2 == (feedM l0_0).2.1) && (decide (a0_3 = (feedM l0_0).2.2.1) && decide (a0_4 = (feedM l0_0).2.2.2))) = r by have := HH.out; rwa [feedOkM, if_neg h1, if_neg h60] at this)
        have HHX := HE.out
        clear HH HE
        obtain ⟨m1, hm1⟩ : ∃ q, q = (feedM l0_0).1 := ⟨_, rfl⟩
        obtain ⟨m2, hm2⟩ : ∃ q, q = (feedM l0_0).2.1 := ⟨_, rfl⟩
        obtain ⟨m3, hm3⟩ : ∃ q, q = (feedM l0_0).2.2.1 := ⟨_, rfl⟩
        obtain ⟨m4, hm4⟩ : ∃ q, q = (feedM l0_0).2.2.2 := ⟨_, rfl⟩
        rw [← hm1, ← hm2, ← hm3, ← hm4] at HHX
        have HE := Aside0.mk HHX
        clear HHX
        go_wp2_with fail
        refine (feedOf_calls A0_0 c0_0 l0_0 _ (Kd.C_below HR0.out HB1.out) HC0.out HBB.out (by omega)).mono ?_
        rintro e_ w2 ⟨rfl, hb2⟩
        rw [← hm1, ← hm2, ← hm3, ← hm4]
        have HQ2 := Aside0.mk (blk_below HQ.out hb2)
        have HB2 := Aside0.mk (Below.trans HB1.out (hb2.mono HB1.out.size))
        clear hb2 hm1 hm2 hm3 hm4 q0 q1 q2 q3 q4
        go_upto_region 6 with (fail)
        have hf := blk_new w2 (Obj.cells #[.slice A0_0 l0_0.length c0_0, .int .i64 m1, .bool m2, .int .i64 m3, .int .i64 m4] 77)
        have HQ3 := Aside0.mk (blk_alloc HQ2.out (Obj.cells #[.slice A0_0 l0_0.length c0_0, .int .i64 m1, .bool m2, .int .i64 m3, .int .i64 m4] 77))
        have HB3 := Aside0.mk (below_alloc HB2.out (Obj.cells #[.slice A0_0 l0_0.length c0_0, .int .i64 m1, .bool m2, .int .i64 m3, .int .i64 m4] 77))
        generalize w2.heap.size = gf at hf ⊢
        generalize w2.alloc (Obj.cells #[.slice A0_0 l0_0.length c0_0, .int .i64 m1, .bool m2, .int .i64 m3, .int .i64 m4] 77) = W4 at hf HQ3 HB3 ⊢
        have p1 := blk_cell hf 1
        have p2 := blk_cell hf 2
        have p3 := blk_cell hf 3
        have p4 := blk_cell hf 4
        simp at p1 p2 p3 p4
        have q1 := blk_cell HQ3.out 1
        have q2 := blk_cell HQ3.out 2
        have q3 := blk_cell HQ3.out 3
        have q4 := blk_cell HQ3.out 4
        simp at q1 q2 q3 q4
        clear hf
        by_cases hn : a0_1 = m1
        · subst hn
          by_cases ho : a0_2 = m2
          · subst ho
            go_wp2
            go_ret
            refine ⟨?_, HB3.out⟩
            have := HE.out
            simp only [decide_true, beq_self_eq_true, Bool.true_and] at this
            rw [← this]; rfl
          · have zo : (a0_2 == m2) = false := by rw [beq_eq_false_iff_ne]; exact ho
            go_wp2
            go_ret
            refine ⟨?_, HB3.out⟩
            have := HE.out
            rw [zo] at this
            simp only [Bool.and_false, Bool.false_and] at this
            rw [← this]; rfl
        · have zn : (a0_1 == m1) = false := by rw [beq_eq_false_iff_ne]; exact hn
          go_wp2
          go_ret
          refine ⟨?_, HB3.out⟩
          have := HE.out
          simp [hn] at this
          rw [← this]; rfl
  · cases h

end Go.Proofs.Ytcjjmfpkhhdmlaa.G
