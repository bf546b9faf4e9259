-- Written by gp.py (a program of this session's, over the kit's print). Not trusted: Lean checks it.
import Derived.Test.YtcjjmfpkhhdmlaaG0h
import Derived.Test.YtcjjmfpkhhdmlaaG59
import Derived.Test.YtcjjmfpkhhdmlaaGReader
import Derived.BigRegion
namespace Go.Proofs.Ytcjjmfpkhhdmlaa.G
open Go.RowKit Go.Proofs.YtcjjmfpkhhdmlaaW.PrintWords Go.Proofs.YtcjjmfpkhhdmlaaW.PrintLast Go.Proofs.YtcjjmfpkhhdmlaaW.PrintMore
attribute [local go_sem] max2_int min2_int max_two min_two max_three min_three max_four min_four   -- for this text's walks alone
set_option linter.unusedVariables false
set_option linter.unusedSimpArgs false

/-! ### impl_feedOf: function 140 -/
--import Derived.BigRegion
/-- a feed's numbers -/
def feedM (l : List Int) : Int × Bool × Int × Int := if 60000 < l.length then (0, false, 1, 0) else (((soFarM l).1.length : Int), (soFarM l).2.1, (soFarM l).2.2.1, (soFarM l).2.2.2)
set_option maxRecDepth 100000 in
set_option maxHeartbeats 4000000 in
theorem feedOf_calls (A : Option Addr) (c : Nat) (l : List Int) (w : World) (hr : Kd.C (Kd.int .u8) w A l.length l) (hc : l.length ≤ c) (hb : isB l = true) (hlen : l.length ≤ 60000) :
    Calls Try.prog 140 #[.slice A l.length c] w fun e w' => e = .returned (.agg #[.slice A l.length c, .int .i64 (feedM l).1, .bool (feedM l).2.1, .int .i64 (feedM l).2.2.1, .int .i64 (feedM l).2.2.2]) ∧ Below w.heap.size w w' := by
  obtain ⟨r1, hr1⟩ : ∃ r1, r1 = (soFarM l).1 := ⟨_, rfl⟩
  obtain ⟨r2, hr2⟩ : ∃ r2, r2 = (soFarM l).2.1 := ⟨_, rfl⟩
  obtain ⟨r3, hr3⟩ : ∃ r3, r3 = (soFarM l).2.2.1 := ⟨_, rfl⟩
  obtain ⟨r4, hr4⟩ : ∃ r4, r4 = (soFarM l).2.2.2 := ⟨_, rfl⟩
  have hm : feedM l = ((r1.length : Int), r2, r3, r4) := by unfold feedM; rw [if_neg (by omega), hr1, hr2, hr3, hr4]
  rw [hm]
  have HF := Aside0.mk (show impl_SegsSoFar.f l = some (r1, r2, r3, r4) by unfold impl_SegsSoFar.f; rw [if_pos ⟨hb, by omega⟩, hr1, hr2, hr3, hr4])
  have HR := Aside0.mk hr
  have HC := Aside0.mk hc
  have z1 : decide ((60000 : Int) < (l.length : Int)) = false := decide_eq_false (by omega)
  clear hr1 hr2 hr3 hr4 hm hr hc hb
  go_enter Try.func140, Try.ntmps140
  go_upto_region 1 with (fail)
  have hq := blk_new w (Obj.cells #[.slice none 0 0, .int .i64 0, .bool false, .int .i64 0, .int .i64 0] 77)
  have HB1 := Aside0.mk (below_alloc (Below.refl w.heap.size w) (Obj.cells #[.slice none 0 0, .int .i64 0, .bool false, .int .i64 0, .int .i64 0] 77))
  have hgq0 : w.heap.size ≤ w.heap.size := Nat.le_refl _
  generalize hgqe : w.heap.size = gq at hq ⊢
  generalize w.alloc (Obj.cells #[.slice none 0 0, .int .i64 0, .bool false, .int .i64 0, .int .i64 0] 77) = W1 at hq HB1 ⊢
  have HQ := Aside0.mk hq
  have hgq : w.heap.size ≤ gq := by omega
  clear hq hgqe
  go_wp2_with fail
  refine (impl_SegsSoFar.calls A c l r1 r2 r3 r4 _ (Kd.C_below HR.out HB1.out) HC.out HF.out).mono ?_
  rintro e_ w2 ⟨v, rfl, hs, hb2⟩
  obtain ⟨Al, cl, el⟩ := Kd.S_slice hs
  subst el
  have HQ2 := Aside0.mk (blk_below HQ.out hb2)
  have HB2 := Aside0.mk (Below.trans HB1.out (hb2.mono HB1.out.size))
  clear hs hb2
  go_upto_region 4 with (fail)
  have hf := blk_new w2 (Obj.cells #[.int .i64 r3, .int .i64 r4] 65)
  have HQ3 := Aside0.mk (blk_alloc HQ2.out (Obj.cells #[.int .i64 r3, .int .i64 r4] 65))
  have HB3 := Aside0.mk (below_alloc HB2.out (Obj.cells #[.int .i64 r3, .int .i64 r4] 65))
  have hqf : gq ≠ w2.heap.size := by have := blk_lt HQ2.out; omega
  generalize w2.heap.size = gf at hf hqf ⊢
  generalize w2.alloc (Obj.cells #[.int .i64 r3, .int .i64 r4] 65) = W4 at hf HQ3 HB3 ⊢
  have h0 := blk_cell hf 0
  have h1 := blk_cell hf 1
  simp at h0 h1
  have q0 := blk_cell HQ3.out 0
  have q1 := blk_cell HQ3.out 1
  have q2 := blk_cell HQ3.out 2
  have q3 := blk_cell HQ3.out 3
  have q4 := blk_cell HQ3.out 4
  simp at q0 q1 q2 q3 q4
  have f0 := blk_frozen HQ3.out 0
  have f1 := blk_frozen HQ3.out 1
  have f2 := blk_frozen HQ3.out 2
  have f3 := blk_frozen HQ3.out 3
  have f4 := blk_frozen HQ3.out 4
  clear hf
  go_wp2
  have e1 := blk_set (blk_set (blk_set (blk_set (blk_set HQ3.out 0 (.slice A l.length c)) 1 (.int .i64 (r1.length : Int))) 2 (.bool r2)) 3 (.int .i64 r3)) 4 (.int .i64 r4)
  refine bodyPost_ret (results_cell_row rfl _ _ gq 77 #[.slice A l.length c, .int .i64 (r1.length : Int), .bool r2, .int .i64 r3, .int .i64 r4] (0, 0) _ rfl (by exact e1) Try.underlying77 rfl (by kernel_rfl)) rfl ?_
  exact ⟨rfl, below_set (below_set (below_set (below_set (below_set HB3.out hgq) hgq) hgq) hgq) hgq⟩

end Go.Proofs.Ytcjjmfpkhhdmlaa.G
