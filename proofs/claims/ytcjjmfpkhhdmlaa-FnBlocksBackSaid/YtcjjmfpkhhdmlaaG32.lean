-- Written by gp.py (a program of this session's, over the kit's print). Not trusted: Lean checks it.
import Derived.Test.YtcjjmfpkhhdmlaaG0h
import Derived.Test.YtcjjmfpkhhdmlaaG91
import Derived.Test.YtcjjmfpkhhdmlaaG95
import Derived.Test.YtcjjmfpkhhdmlaaG98
import Derived.Test.YtcjjmfpkhhdmlaaGLib
namespace Go.Proofs.Ytcjjmfpkhhdmlaa.G
open Go.RowKit Go.Proofs.YtcjjmfpkhhdmlaaW.PrintWords Go.Proofs.YtcjjmfpkhhdmlaaW.PrintLast Go.Proofs.YtcjjmfpkhhdmlaaW.PrintMore
attribute [local go_sem] max2_int min2_int max_two min_two max_three min_three max_four min_four   -- for this text's walks alone
set_option linter.unusedVariables false
set_option linter.unusedSimpArgs false

/-! ### impl_Pad: function 32 -/
def padG (l : List Int) (w h : Int) (y x : Nat) : Int := rd l (min (y : Int) (h - 1) * w + min (x : Int) (w - 1))
def impl_Pad.f (l0 : List Int) (a1 a2 a3 a4 : Int) : Option (List Int) := if l0.length ≤ 9223372036854775807 then some (if isGr l0 a1 a2 a3 a4 then planeM a3.toNat a4.toNat (padG l0 a1 a2) else []) else none
set_option maxRecDepth 100000 in
set_option maxHeartbeats 4000000 in
theorem pad_lit (l : List Int) (wd h : Int) (gl gw gh : Nat) (A : Option Addr) (c : Nat) (W1 : World) (k1 : W1.heap[gl]? = some (.cells #[.slice A l.length c] 22 (0, 0))) (k2 : W1.heap[gw]? = some (.cells #[.int .i64 wd] 3 (0, 0))) (k3 : W1.heap[gh]? = some (.cells #[.int .i64 h] 3 (0, 0))) (hC : Kd.C (Kd.int .i64) W1 A l.length l) (hs : sidesOk wd h = true) (hl : (l.length : Int) = wd * h) (y x : Nat) :
    Calls Try.prog 99 #[.int .i64 (y : Int), .int .i64 (x : Int), .pointer (some ⟨gl, 0, none⟩), .pointer (some ⟨gh, 0, none⟩), .pointer (some ⟨gw, 0, none⟩)] W1 fun e w' => e = .returned (.int .i64 (padG l wd h y x)) ∧ Drawn0 W1 w' := by
  obtain ⟨s1, s2, s3, s4, s5⟩ := sides_of hs
  have hm := mul_1024 wd h s1 s2 s3 s4
  obtain ⟨my, hmy⟩ : ∃ m, m = min (y : Int) (h - 1) := ⟨_, rfl⟩
  obtain ⟨mx, hmx⟩ : ∃ m, m = min (x : Int) (wd - 1) := ⟨_, rfl⟩
  have y0 : 0 ≤ my := by omega
  have y1 : my + 1 ≤ h := by omega
  have x0 : 0 ≤ mx := by omega
  have x1 : mx + 1 ≤ wd := by omega
  have e1 : (my + 1) * wd ≤ h * wd := Int.mul_le_mul_of_nonneg_right (by omega) (by omega)
  rw [Int.add_mul, Int.one_mul, Int.mul_comm h wd] at e1
  have e0 : 0 ≤ my * wd := Int.mul_nonneg (by omega) (by omega)
  obtain ⟨p, hp⟩ : ∃ p, p = my * wd := ⟨_, rfl⟩
  rw [← hp] at e0 e1
  obtain ⟨ad, rfl, hcell⟩ := Kd.at_int hC (p + mx) (by omega) (by omega)
  have c1 := blk_cell k1 0
  have c2 := blk_cell k2 0
  have c3 := blk_cell k3 0
  simp at c1 c2 c3
  have v1 : wrap64 (h - 1) = h - 1 := wrap_in _ (by omega) (by omega)
  have v2 : wrap64 (wd - 1) = wd - 1 := wrap_in _ (by omega) (by omega)
  have v3 : min (y : Int) (h - 1) = my := hmy.symm
  have v4 : min (x : Int) (wd - 1) = mx := hmx.symm
  have w1 : wrap64 (my * wd) = p := by rw [← hp]; exact wrap_in _ (by omega) (by omega)
  have w2 : wrap64 (p + mx) = p + mx := wrap_in _ (by omega) (by omega)
  have HP := Aside0.mk (show padG l wd h y x = rd l (p + mx) by unfold padG; rw [v3, v4, hp])
  have b0 : p + mx < (l.length : Int) := by omega
  have b1 : 0 ≤ p + mx := by omega
  have hy2 : ((y : Int) ≤ h - 1 ∧ my = y) ∨ (h - 1 < (y : Int) ∧ my = h - 1) := by omega
  have hx2 : ((x : Int) ≤ wd - 1 ∧ mx = x) ∨ (wd - 1 < (x : Int) ∧ mx = wd - 1) := by omega
  clear v3 v4 hmy hmx hp hC k1 k2 k3 hs hl hm e1 s5
  rcases hy2 with ⟨q1, rfl⟩ | ⟨q1, rfl⟩ <;> rcases hx2 with ⟨q2, rfl⟩ | ⟨q2, rfl⟩
  all_goals
    go_enter Try.func99, Try.ntmps99
    go_wp2
    go_ret
    refine ⟨?_, ⟨0, rfl⟩⟩
    rw [HP.out]
    rfl
set_option maxRecDepth 100000 in
set_option maxHeartbeats 4000000 in
theorem impl_Pad.calls (A0 : Option Addr) (c0 : Nat) (l0 : List Int) (a1 a2 a3 a4 : Int) (r : List Int) (w : World) (hr0 : Kd.C (Kd.int .i64) w A0 l0.length l0) (hc0 : l0.length ≤ c0) (h : impl_Pad.f l0 a1 a2 a3 a4 = some r) :
    Calls Try.prog 32 #[.slice A0 l0.length c0, .int .i64 a1, .int .i64 a2, .int .i64 a3, .int .i64 a4] w fun e w' => ∃ v0_ : Value, e = .returned (v0_) ∧ Kd.R (Kd.int .i64) 3 w' w.heap.size (fun _ => True) v0_ r ∧ Below w.heap.size w w' := by
  unfold impl_Pad.f at h
  split at h
  · rename_i hl9
    have HH := Aside0.mk (Option.some.inj h)
    obtain ⟨kp, hkp⟩ := (impl_isGreater.ev l0 a1 a2 a3 a4).rounds
    have A1 := Aside0.mk hkp
    have HR0 := Aside0.mk hr0
    have HC0 := Aside0.mk hc0
    clear h hkp hr0 hc0
    go_enter Try.func32, Try.ntmps32
    go_upto_region 1 with (fail)
    generalize hW : ((w.alloc (Obj.cells #[Value.slice A0 l0.length c0] 22)).alloc (Obj.cells #[Value.int IntKind.i64 a1] 3)).alloc (Obj.cells #[Value.int IntKind.i64 a2] 3) = W1
    have k1 : W1.heap[w.heap.size]? = some (.cells #[.slice A0 l0.length c0] 22 (0, 0)) := by rw [← hW]; exact blk_alloc (blk_alloc (blk_new _ _) _) _
    have k2 : W1.heap[w.heap.size + 1]? = some (.cells #[.int .i64 a1] 3 (0, 0)) := by
      have := blk_alloc (blk_new (w.alloc (Obj.cells #[Value.slice A0 l0.length c0] 22)) (Obj.cells #[Value.int IntKind.i64 a1] 3)) (Obj.cells #[Value.int IntKind.i64 a2] 3)
      rw [hW] at this; simpa using this
    have k3 : W1.heap[w.heap.size + 1 + 1]? = some (.cells #[.int .i64 a2] 3 (0, 0)) := by
      have := blk_new ((w.alloc (Obj.cells #[Value.slice A0 l0.length c0] 22)).alloc (Obj.cells #[Value.int IntKind.i64 a1] 3)) (Obj.cells #[Value.int IntKind.i64 a2] 3)
      rw [hW] at this; simpa using this
    have HB1 := Aside0.mk (show Below w.heap.size w W1 by rw [← hW]; exact below_alloc (below_alloc (below_alloc (Below.refl _ _) _) _) _)
    have HC1 := Aside0.mk (Kd.C_below HR0.out HB1.out)
    clear hW
    generalize hgw : w.heap.size + 1 = gw at k2 k3 ⊢
    generalize hgh : gw + 1 = gh at k3 ⊢
    have c1 := blk_cell k1 0
    have c2 := blk_cell k2 0
    have c3 := blk_cell k3 0
    simp at c1 c2 c3
    have K1 := Aside0.mk k1
    have K2 := Aside0.mk k2
    have K3 := Aside0.mk k3
    clear k1 k2 k3 hgw hgh
    cases hp : isGr l0 a1 a2 a3 a4
    · rw [hp] at A1
      have HN := Aside0.mk (show [] = r by rw [← HH.out, if_neg (by rw [hp]; simp)])
      clear HH hp
      go_wp2_with (first | (go_at_call 98; (with_reducible refine (impl_isGreater.calls kp _ _ l0 _ _ _ _ _ _ ?side1 ?side2 A1.out).mono ?_); (case side1 => repeat (first | exact HC1.out | (with_reducible refine Kd.C_alloc ?_ _) | (with_reducible refine Kd.C_drewN ?_ _) | (with_reducible refine Kd.C_drew ?_))); (case side2 => exact HC0.out); rintro e w' ⟨rfl, ⟨nd, rfl⟩⟩))
      repeat (go_quiet (first | (go_at_call 98; (with_reducible refine (impl_isGreater.calls kp _ _ l0 _ _ _ _ _ _ ?side1 ?side2 A1.out).mono ?_); (case side1 => repeat (first | exact HC1.out | (with_reducible refine Kd.C_alloc ?_ _) | (with_reducible refine Kd.C_drewN ?_ _) | (with_reducible refine Kd.C_drew ?_))); (case side2 => exact HC0.out); rintro e w' ⟨rfl, ⟨nd, rfl⟩⟩)); try go_wp2)
      go_ret
      refine ⟨_, rfl, ?_, ?_⟩
      · rw [← HN.out]; exact Kd.R_nil _ _ _ _ _
      · repeat (first | exact HB1.out | apply pw_below_drewN | apply below_drew1)
    · rw [hp] at A1
      have HY := Aside0.mk (show planeM a3.toNat a4.toNat (padG l0 a1 a2) = r by rw [← HH.out, if_pos hp])
      obtain ⟨hpl, hs, q1, q2⟩ := isGr_of hp
      obtain ⟨p1, p2, p3⟩ := plane_of hpl
      obtain ⟨s1, s2, s3, s4, s5⟩ := sides_of hs
      obtain ⟨n3, rfl⟩ := Int.eq_ofNat_of_zero_le (show 0 ≤ a3 by omega)
      obtain ⟨n4, rfl⟩ := Int.eq_ofNat_of_zero_le (show 0 ≤ a4 by omega)
      rw [Int.toNat_natCast, Int.toNat_natCast] at HY
      have P1 := Aside0.mk p1
      have P2 := Aside0.mk p2
      clear HH hp hs p1 p2 p3 hpl
      go_wp2_with (first | (go_at_call 98; (with_reducible refine (impl_isGreater.calls kp _ _ l0 _ _ _ _ _ _ ?side1 ?side2 A1.out).mono ?_); (case side1 => repeat (first | exact HC1.out | (with_reducible refine Kd.C_alloc ?_ _) | (with_reducible refine Kd.C_drewN ?_ _) | (with_reducible refine Kd.C_drew ?_))); (case side2 => exact HC0.out); rintro e w' ⟨rfl, ⟨nd, rfl⟩⟩))
      refine (impl_plane.calls 99 #[.pointer (some ⟨w.heap.size, 0, none⟩), .pointer (some ⟨gh, 0, none⟩), .pointer (some ⟨gw, 0, none⟩)] n3 n4 (padG l0 a1 a2) _ (by omega) (by omega) ⟨fun args W => by go_simp, ?_⟩).mono ?_
      · intro W2 y x hb hy hx
        have hb2 : Below W1.heap.size W1 W2 := Below.trans (pw_below_drewN (Below.refl _ _) _) hb
        exact pad_lit l0 a1 a2 w.heap.size gw gh A0 c0 W2 (blk_below K1.out hb2) (blk_below K2.out hb2) (blk_below K3.out hb2) (Kd.C_below HC1.out hb2) P1.out P2.out y x
      · rintro e_ w_ ⟨v, rfl, ho, hb⟩
        have HO := Aside0.mk ho
        have HB2 := Aside0.mk hb
        clear ho hb
        go_wp2
        go_ret
        refine ⟨_, rfl, ?_, ?_⟩
        · rw [← HY.out]
          exact Kd.R_lower HO.out HB1.out.size
        · exact Below.trans (pw_below_drewN HB1.out _) (HB2.out.mono HB1.out.size)
  · cases h

end Go.Proofs.Ytcjjmfpkhhdmlaa.G
