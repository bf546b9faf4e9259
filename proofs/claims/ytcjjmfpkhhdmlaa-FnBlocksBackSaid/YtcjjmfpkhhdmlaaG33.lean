-- Written by gp.py (a program of this session's, over the kit's print). Not trusted: Lean checks it.
import Derived.Test.YtcjjmfpkhhdmlaaG0h
import Derived.Test.YtcjjmfpkhhdmlaaG100
import Derived.Test.YtcjjmfpkhhdmlaaG101
import Derived.Test.YtcjjmfpkhhdmlaaG32
import Derived.Test.YtcjjmfpkhhdmlaaG90
import Derived.Test.YtcjjmfpkhhdmlaaG91
import Derived.Test.YtcjjmfpkhhdmlaaG95
import Derived.Test.YtcjjmfpkhhdmlaaG98
import Derived.Test.YtcjjmfpkhhdmlaaGLib
namespace Go.Proofs.Ytcjjmfpkhhdmlaa.G
open Go.RowKit Go.Proofs.YtcjjmfpkhhdmlaaW.PrintWords Go.Proofs.YtcjjmfpkhhdmlaaW.PrintLast Go.Proofs.YtcjjmfpkhhdmlaaW.PrintMore
attribute [local go_sem] max2_int min2_int max_two min_two max_three min_three max_four min_four   -- for this text's walks alone
set_option linter.unusedVariables false
set_option linter.unusedSimpArgs false

/-! ### spec_Pad: function 33 -/
mutual
def spec_Pad.j0 : Nat → List Int → Int → Int → Int → Int → List Int → Bool → Option (List Int)
  | 0, _, _, _, _, _, _, _ => none
  | k + 1, x0, x1, x2, x3, x4, x11, x35 => if x35 = true then (some x11) else (spec_Pad.l0 k x0 x1 x2 x3 x4 x11 0)
def spec_Pad.l0 : Nat → List Int → Int → Int → Int → Int → List Int → Int → Option (List Int)
  | 0, _, _, _, _, _, _, _ => none
  | k + 1, x0, x1, x2, x3, x4, x11, x12 => if x12 < x4 then (spec_Pad.l1 k x0 x1 x2 x3 x4 x11 x12 0) else (some x11)
def spec_Pad.l1 : Nat → List Int → Int → Int → Int → Int → List Int → Int → Int → Option (List Int)
  | 0, _, _, _, _, _, _, _, _ => none
  | k + 1, x0, x1, x2, x3, x4, x11, x12, x13 => if x13 < x3 then ((spec_l16Least.f x12 (wrap64 (x2 - 1))).bind fun t345 => ((spec_l16Least.f x13 (wrap64 (x1 - 1))).bind fun t346 => (if 0 ≤ (wrap64 ((wrap64 (t345 * x1)) + t346)) then (if (wrap64 ((wrap64 (t345 * x1)) + t346)) < (x0.length : Int) then (if x11.length < 17592186044416 then (spec_Pad.l1 k x0 x1 x2 x3 x4 (x11 ++ [rd x0 (wrap64 ((wrap64 (t345 * x1)) + t346))]) x12 (wrap64 (x13 + 1))) else (none)) else (none)) else (none)))) else (spec_Pad.l0 k x0 x1 x2 x3 x4 x11 (wrap64 (x12 + 1)))
end
def spec_Pad.f (k : Nat) (l0 : List Int) (a1 : Int) (a2 : Int) (a3 : Int) (a4 : Int) : Option (List Int) := (some (([] : List Int) : List Int)).bind fun y340 => ((spec_PlaneOk.f k l0 a1 a2).bind fun t343 => (if t343 = true then ((spec_l16Sides.f a3 a4).bind fun t344 => (if t344 = true then (if a3 < a1 then (spec_Pad.j0 k l0 a1 a2 a3 a4 y340 true) else (spec_Pad.j0 k l0 a1 a2 a3 a4 y340 (decide (a4 < a2)))) else (spec_Pad.j0 k l0 a1 a2 a3 a4 y340 true))) else (spec_Pad.j0 k l0 a1 a2 a3 a4 y340 true)))
theorem spec_Pad.mono_l : ∀ k, (∀ y0 y1 y2 y3 y4 y5 y6, LeO (spec_Pad.j0 k y0 y1 y2 y3 y4 y5 y6) (spec_Pad.j0 (k + 1) y0 y1 y2 y3 y4 y5 y6)) ∧ (∀ y0 y1 y2 y3 y4 y5 y6, LeO (spec_Pad.l0 k y0 y1 y2 y3 y4 y5 y6) (spec_Pad.l0 (k + 1) y0 y1 y2 y3 y4 y5 y6)) ∧ (∀ y0 y1 y2 y3 y4 y5 y6 y7, LeO (spec_Pad.l1 k y0 y1 y2 y3 y4 y5 y6 y7) (spec_Pad.l1 (k + 1) y0 y1 y2 y3 y4 y5 y6 y7))
  | 0 => ⟨fun _ _ _ _ _ _ _ r h => by simp [spec_Pad.j0] at h, fun _ _ _ _ _ _ _ r h => by simp [spec_Pad.l0] at h, fun _ _ _ _ _ _ _ _ r h => by simp [spec_Pad.l1] at h⟩
  | k + 1 => by
    obtain ⟨ih0, ih1, ih2⟩ := spec_Pad.mono_l k
    refine ⟨?_, ?_, ?_⟩
    · intro y0 y1 y2 y3 y4 y5 y6
      unfold spec_Pad.j0
      repeat' first
      | (with_reducible exact ih0 _ _ _ _ _ _ _)
      | (with_reducible exact ih1 _ _ _ _ _ _ _)
      | (with_reducible exact ih2 _ _ _ _ _ _ _ _)
      | (with_reducible exact spec_PlaneOk.mono _ _ _ _)
      | (with_reducible exact LeO.refl _)
      | (with_reducible exact LeO.none _)
      | (with_reducible refine LeO.ite ?_ ?_)
      | (with_reducible refine LeO.bind ?_ (fun _ => ?_))
      | exact ih0 _ _ _ _ _ _ _
      | exact ih1 _ _ _ _ _ _ _
      | exact ih2 _ _ _ _ _ _ _ _
      | exact spec_PlaneOk.mono _ _ _ _
      | exact LeO.none _
      | refine LeO.ite ?_ ?_
      | refine LeO.bind ?_ (fun _ => ?_)
    · intro y0 y1 y2 y3 y4 y5 y6
      unfold spec_Pad.l0
      repeat' first
      | (with_reducible exact ih0 _ _ _ _ _ _ _)
      | (with_reducible exact ih1 _ _ _ _ _ _ _)
      | (with_reducible exact ih2 _ _ _ _ _ _ _ _)
      | (with_reducible exact spec_PlaneOk.mono _ _ _ _)
      | (with_reducible exact LeO.refl _)
      | (with_reducible exact LeO.none _)
      | (with_reducible refine LeO.ite ?_ ?_)
      | (with_reducible refine LeO.bind ?_ (fun _ => ?_))
      | exact ih0 _ _ _ _ _ _ _
      | exact ih1 _ _ _ _ _ _ _
      | exact ih2 _ _ _ _ _ _ _ _
      | exact spec_PlaneOk.mono _ _ _ _
      | exact LeO.none _
      | refine LeO.ite ?_ ?_
      | refine LeO.bind ?_ (fun _ => ?_)
    · intro y0 y1 y2 y3 y4 y5 y6 y7
      unfold spec_Pad.l1
      repeat' first
      | (with_reducible exact ih0 _ _ _ _ _ _ _)
      | (with_reducible exact ih1 _ _ _ _ _ _ _)
      | (with_reducible exact ih2 _ _ _ _ _ _ _ _)
      | (with_reducible exact spec_PlaneOk.mono _ _ _ _)
      | (with_reducible exact LeO.refl _)
      | (with_reducible exact LeO.none _)
      | (with_reducible refine LeO.ite ?_ ?_)
      | (with_reducible refine LeO.bind ?_ (fun _ => ?_))
      | exact ih0 _ _ _ _ _ _ _
      | exact ih1 _ _ _ _ _ _ _
      | exact ih2 _ _ _ _ _ _ _ _
      | exact spec_PlaneOk.mono _ _ _ _
      | exact LeO.none _
      | refine LeO.ite ?_ ?_
      | refine LeO.bind ?_ (fun _ => ?_)
theorem spec_Pad.mono : ∀ a0 a1 a2 a3 a4 k, LeO (spec_Pad.f k a0 a1 a2 a3 a4) (spec_Pad.f (k + 1) a0 a1 a2 a3 a4) := by
  intro a0 a1 a2 a3 a4 k
  obtain ⟨ih0, ih1, ih2⟩ := spec_Pad.mono_l k
  unfold spec_Pad.f
  repeat' first
      | (with_reducible exact ih0 _ _ _ _ _ _ _)
      | (with_reducible exact ih1 _ _ _ _ _ _ _)
      | (with_reducible exact ih2 _ _ _ _ _ _ _ _)
      | (with_reducible exact spec_PlaneOk.mono _ _ _ _)
      | (with_reducible exact LeO.refl _)
      | (with_reducible exact LeO.none _)
      | (with_reducible refine LeO.ite ?_ ?_)
      | (with_reducible refine LeO.bind ?_ (fun _ => ?_))
      | exact ih0 _ _ _ _ _ _ _
      | exact ih1 _ _ _ _ _ _ _
      | exact ih2 _ _ _ _ _ _ _ _
      | exact spec_PlaneOk.mono _ _ _ _
      | exact LeO.none _
      | refine LeO.ite ?_ ?_
      | refine LeO.bind ?_ (fun _ => ?_)
set_option maxHeartbeats 8000000 in
set_option maxRecDepth 100000 in
theorem spec_Pad.calls (k : Nat) (A0 : Option Addr) (c0 : Nat) (l0 : List Int) (a1 : Int) (a2 : Int) (a3 : Int) (a4 : Int) (r : List Int) (w : World) (hr0 : Kd.C (Kd.int .i64) w A0 l0.length l0) (hc0 : l0.length ≤ c0) (h : spec_Pad.f k l0 a1 a2 a3 a4 = some r) :
    Calls Try.prog 33 #[.slice A0 l0.length c0, .int .i64 a1, .int .i64 a2, .int .i64 a3, .int .i64 a4] w fun e w' => ∃ v0_ : Value, e = .returned (v0_) ∧ Kd.R (Kd.int .i64) 3 w' w.heap.size (fun _ => True) v0_ r ∧ Below w.heap.size w w' := by
  have HR0 := Aside0.mk hr0
  have HC0 := Aside0.mk hc0
  clear hr0 hc0
  have HB := Aside0.mk (Below.refl w.heap.size w)
  have H : ((some (([] : List Int) : List Int)).bind fun y340 => ((spec_PlaneOk.f k l0 a1 a2).bind fun t343 => (if t343 = true then ((spec_l16Sides.f a3 a4).bind fun t344 => (if t344 = true then (if a3 < a1 then (spec_Pad.j0 k l0 a1 a2 a3 a4 y340 true) else (spec_Pad.j0 k l0 a1 a2 a3 a4 y340 (decide (a4 < a2)))) else (spec_Pad.j0 k l0 a1 a2 a3 a4 y340 true))) else (spec_Pad.j0 k l0 a1 a2 a3 a4 y340 true)))) = some r := h
  clear h
  obtain ⟨y340, hy340⟩ : ∃ y_ : List Int, y_ = (([] : List Int)) := ⟨_, rfl⟩
  replace H : ((spec_PlaneOk.f k l0 a1 a2).bind fun t343 => (if t343 = true then ((spec_l16Sides.f a3 a4).bind fun t344 => (if t344 = true then (if a3 < a1 then (spec_Pad.j0 k l0 a1 a2 a3 a4 y340 true) else (spec_Pad.j0 k l0 a1 a2 a3 a4 y340 (decide (a4 < a2)))) else (spec_Pad.j0 k l0 a1 a2 a3 a4 y340 true))) else (spec_Pad.j0 k l0 a1 a2 a3 a4 y340 true))) = some r := by first | (rw [hy340]; with_reducible exact H) | (have H2_ := (Option.bind_some _ _).symm.trans H; rw [hy340]; with_reducible exact H2_) | (have H2_ := (Option.bind_some _ _).symm.trans H; with_reducible exact H2_) | with_reducible exact H | (rw [hy340]; exact H) | exact H
  have Ny340 := Aside0.mk hy340
  clear hy340
  have HC6 := Aside0.mk H
  clear H
  go_enter Try.func33, Try.ntmps33
  go_upto_region 2 with (first | ((with_reducible refine gate_dst (N := 14) rfl ?_); refine Kd.R_lit (Kd.int .i64) _ 3 ?hg (N := 14) ?hd (xs := ([] : List Int)) (inner := []) (ok := fun _ => True) (okp := fun _ => True) ?hr ?hp (fun _ hk => hk) trivial (Below.refl _ _) (Nat.le_refl _) (by simp) ?_; (case hd => rfl); (case hg => rfl); (case hr => first | (go_simp; done) | (go_simp; rfl)); (case hp => exact (Reps.none _ _)); intro v341 w7 ho8 hb hg_ hnew_; clear hg_ hnew_; (first | rw [← Ny340.out] at ho8 | (simp only [Int.reduceToNat] at ho8; rw [← Ny340.out] at ho8)); have n0_ := Aside0.mk (Kd.R_lower ho8 (below_size (by repeat (first | (with_reducible first | exact HB.out | apply below_alloc | apply pw_below_drewN | apply below_drew1) | exact HB.out)))); have n1_ := Aside0.mk (below_step (by repeat (first | (with_reducible first | exact HB.out | apply below_alloc | apply pw_below_drewN | apply below_drew1) | exact HB.out)) hb); clear HB; have HO342 := n0_; have HB := n1_; clear n0_ n1_; clear hb ho8))
  (try simp only [Act.put, List.setIfInBounds_toArray, List.set_cons_zero, List.set_cons_succ])
  go_cut [35] (fun v35 wc => ∃ (kq : Nat) (x35_5 : Bool), v35 = .bool x35_5 ∧ Aside0 (spec_Pad.j0 kq l0 a1 a2 a3 a4 y340 x35_5 = some r) ∧ Aside0 (kq ≤ k) ∧ Aside0 (Kd.R (Kd.int .i64) 3 wc w.heap.size (fun _ => True) v341 y340) ∧ Aside0 (Below w.heap.size w wc))
  case first =>
    have H := HC6.out
    clear HC6
    replace H := Option.bind_eq_some_iff.mp H
    obtain ⟨t343, A90, H⟩ := H
    replace H : (if t343 = true then ((spec_l16Sides.f a3 a4).bind fun t344 => (if t344 = true then (if a3 < a1 then (spec_Pad.j0 k l0 a1 a2 a3 a4 y340 true) else (spec_Pad.j0 k l0 a1 a2 a3 a4 y340 (decide (a4 < a2)))) else (spec_Pad.j0 k l0 a1 a2 a3 a4 y340 true))) else (spec_Pad.j0 k l0 a1 a2 a3 a4 y340 true)) = some r := H
    have A9 := Aside0.mk A90
    clear A90
    by_cases c10 : t343 = true
    · subst c10
      have H1 : ((spec_l16Sides.f a3 a4).bind fun t344 => (if t344 = true then (if a3 < a1 then (spec_Pad.j0 k l0 a1 a2 a3 a4 y340 true) else (spec_Pad.j0 k l0 a1 a2 a3 a4 y340 (decide (a4 < a2)))) else (spec_Pad.j0 k l0 a1 a2 a3 a4 y340 true))) = some r := by rw [if_pos rfl] at H; exact H
      clear H
      have H := H1
      clear H1
      replace H := Option.bind_eq_some_iff.mp H
      obtain ⟨t344, A110, H⟩ := H
      replace H : (if t344 = true then (if a3 < a1 then (spec_Pad.j0 k l0 a1 a2 a3 a4 y340 true) else (spec_Pad.j0 k l0 a1 a2 a3 a4 y340 (decide (a4 < a2)))) else (spec_Pad.j0 k l0 a1 a2 a3 a4 y340 true)) = some r := H
      have A11 := Aside0.mk A110
      clear A110
      by_cases c12 : t344 = true
      · subst c12
        have H1 : (if a3 < a1 then (spec_Pad.j0 k l0 a1 a2 a3 a4 y340 true) else (spec_Pad.j0 k l0 a1 a2 a3 a4 y340 (decide (a4 < a2)))) = some r := by rw [if_pos rfl] at H; exact H
        clear H
        have H := H1
        clear H1
        by_cases c13 : a3 < a1
        · rw [if_pos c13] at H
          have c13b0 : decide (a3 < a1) = true := decide_eq_true c13
          clear c13
          (first | rw [c13b0] | (simp only [i64_w, i32_w]; rw [c13b0]) | skip)
          have H' := Aside0.mk H
          clear H
          go_wp2_with (first | ((with_reducible refine gate_callee (f := 90) rfl ?_); refine goesL_ (some 18) rfl rfl Try.func90 (by kernel_rfl) rfl #[.slice A0 l0.length c0, .int .i64 a1, .int .i64 a2] rfl (by (try simp only [List.map_toArray, List.map_cons, List.map_nil]); first | done | rfl | (simp only [List.length_drop, List.length_take]; rfl)) ?_; (with_reducible refine (spec_PlaneOk.calls k _ _ l0 a1 a2 true _ ?side1 ?side2 A9.out).mono ?_); (case side1 => repeat (first | exact (Kd.C_below HR0.out HB.out) | (with_reducible refine Kd.C_alloc ?_ _) | (with_reducible refine Kd.C_drewN ?_ _) | (with_reducible refine Kd.C_drew ?_))); (case side2 => exact HC0.out); rintro e w' ⟨rfl, ⟨nd, rfl⟩⟩; refine ⟨_, rfl, ?_⟩) | (go_at_call 100; (with_reducible refine (spec_l16Sides.calls a3 a4 true _ A11.out).mono ?_); rintro e w' ⟨rfl, ⟨nd, rfl⟩⟩))
          go_meet
          case rel => exact ⟨_, (true), (by first | rfl | (simp; done) | (simp [*]; done)), H', ⟨by first | omega | exact Nat.le_refl _⟩, ⟨by (with_reducible repeat (first | apply Kd.R_alloc | apply Kd.R_drewN | apply Kd.R_drew)); exact HO342.out⟩, ⟨by repeat (first | (with_reducible first | exact HB.out | apply below_alloc | apply pw_below_drewN | apply below_drew1) | exact HB.out)⟩⟩
        · rw [if_neg c13] at H
          have c13b0 : decide (a3 < a1) = false := decide_eq_false c13
          clear c13
          (first | rw [c13b0] | (simp only [i64_w, i32_w]; rw [c13b0]) | skip)
          have H' := Aside0.mk H
          clear H
          go_wp2_with (first | ((with_reducible refine gate_callee (f := 90) rfl ?_); refine goesL_ (some 18) rfl rfl Try.func90 (by kernel_rfl) rfl #[.slice A0 l0.length c0, .int .i64 a1, .int .i64 a2] rfl (by (try simp only [List.map_toArray, List.map_cons, List.map_nil]); first | done | rfl | (simp only [List.length_drop, List.length_take]; rfl)) ?_; (with_reducible refine (spec_PlaneOk.calls k _ _ l0 a1 a2 true _ ?side1 ?side2 A9.out).mono ?_); (case side1 => repeat (first | exact (Kd.C_below HR0.out HB.out) | (with_reducible refine Kd.C_alloc ?_ _) | (with_reducible refine Kd.C_drewN ?_ _) | (with_reducible refine Kd.C_drew ?_))); (case side2 => exact HC0.out); rintro e w' ⟨rfl, ⟨nd, rfl⟩⟩; refine ⟨_, rfl, ?_⟩) | (go_at_call 100; (with_reducible refine (spec_l16Sides.calls a3 a4 true _ A11.out).mono ?_); rintro e w' ⟨rfl, ⟨nd, rfl⟩⟩))
          go_meet
          case rel => exact ⟨_, (decide (a4 < a2)), (by first | rfl | (simp; done) | (simp [*]; done)), H', ⟨by first | omega | exact Nat.le_refl _⟩, ⟨by (with_reducible repeat (first | apply Kd.R_alloc | apply Kd.R_drewN | apply Kd.R_drew)); exact HO342.out⟩, ⟨by repeat (first | (with_reducible first | exact HB.out | apply below_alloc | apply pw_below_drewN | apply below_drew1) | exact HB.out)⟩⟩
      · replace c12 := Bool.eq_false_iff.mpr c12
        subst c12
        have H1 : (spec_Pad.j0 k l0 a1 a2 a3 a4 y340 true) = some r := by rw [if_neg (show ¬ (false = true) by decide)] at H; exact H
        clear H
        have H := H1
        clear H1
        have H' := Aside0.mk H
        clear H
        go_wp2_with (first | ((with_reducible refine gate_callee (f := 90) rfl ?_); refine goesL_ (some 18) rfl rfl Try.func90 (by kernel_rfl) rfl #[.slice A0 l0.length c0, .int .i64 a1, .int .i64 a2] rfl (by (try simp only [List.map_toArray, List.map_cons, List.map_nil]); first | done | rfl | (simp only [List.length_drop, List.length_take]; rfl)) ?_; (with_reducible refine (spec_PlaneOk.calls k _ _ l0 a1 a2 true _ ?side1 ?side2 A9.out).mono ?_); (case side1 => repeat (first | exact (Kd.C_below HR0.out HB.out) | (with_reducible refine Kd.C_alloc ?_ _) | (with_reducible refine Kd.C_drewN ?_ _) | (with_reducible refine Kd.C_drew ?_))); (case side2 => exact HC0.out); rintro e w' ⟨rfl, ⟨nd, rfl⟩⟩; refine ⟨_, rfl, ?_⟩) | (go_at_call 100; (with_reducible refine (spec_l16Sides.calls a3 a4 false _ A11.out).mono ?_); rintro e w' ⟨rfl, ⟨nd, rfl⟩⟩))
        go_meet
        case rel => exact ⟨_, (true), (by first | rfl | (simp; done) | (simp [*]; done)), H', ⟨by first | omega | exact Nat.le_refl _⟩, ⟨by (with_reducible repeat (first | apply Kd.R_alloc | apply Kd.R_drewN | apply Kd.R_drew)); exact HO342.out⟩, ⟨by repeat (first | (with_reducible first | exact HB.out | apply below_alloc | apply pw_below_drewN | apply below_drew1) | exact HB.out)⟩⟩
    · replace c10 := Bool.eq_false_iff.mpr c10
      subst c10
      have H1 : (spec_Pad.j0 k l0 a1 a2 a3 a4 y340 true) = some r := by rw [if_neg (show ¬ (false = true) by decide)] at H; exact H
      clear H
      have H := H1
      clear H1
      have H' := Aside0.mk H
      clear H
      go_wp2_with (first | ((with_reducible refine gate_callee (f := 90) rfl ?_); refine goesL_ (some 18) rfl rfl Try.func90 (by kernel_rfl) rfl #[.slice A0 l0.length c0, .int .i64 a1, .int .i64 a2] rfl (by (try simp only [List.map_toArray, List.map_cons, List.map_nil]); first | done | rfl | (simp only [List.length_drop, List.length_take]; rfl)) ?_; (with_reducible refine (spec_PlaneOk.calls k _ _ l0 a1 a2 false _ ?side1 ?side2 A9.out).mono ?_); (case side1 => repeat (first | exact (Kd.C_below HR0.out HB.out) | (with_reducible refine Kd.C_alloc ?_ _) | (with_reducible refine Kd.C_drewN ?_ _) | (with_reducible refine Kd.C_drew ?_))); (case side2 => exact HC0.out); rintro e w' ⟨rfl, ⟨nd, rfl⟩⟩; refine ⟨_, rfl, ?_⟩))
      go_meet
      case rel => exact ⟨_, (true), (by first | rfl | (simp; done) | (simp [*]; done)), H', ⟨by first | omega | exact Nat.le_refl _⟩, ⟨by (with_reducible repeat (first | apply Kd.R_alloc | apply Kd.R_drewN | apply Kd.R_drew)); exact HO342.out⟩, ⟨by repeat (first | (with_reducible first | exact HB.out | apply below_alloc | apply pw_below_drewN | apply below_drew1) | exact HB.out)⟩⟩
  case rest =>
    clear HC6
    try clear c1
    try clear p2
    try clear c3
    try clear c9
    try clear c10
    try clear c12
    try clear c13
    try clear c13b0
    obtain ⟨kq, x35_5, rfl, HA, HJ5, HO_11, HB⟩ := hcut
    cases kq with
    | zero => exact absurd HA.out (by simp [spec_Pad.j0])
    | succ kj5 =>
      have H := HA.out
      clear HA
      simp only [spec_Pad.j0] at H
      by_cases c14 : x35_5 = true
      · subst c14
        have H1 : (some y340) = some r := by rw [if_pos rfl] at H; exact H
        clear H
        have H := H1
        clear H1
        obtain rfl := Option.some.inj H
        go_wp2
        go_ret
        exact ⟨_, by first | rfl | (simp [errW_none, errW_some] <;> rfl) | (simp [*, errW_none, errW_some] <;> rfl), by (with_reducible repeat (first | apply Kd.R_alloc | apply Kd.R_drewN | apply Kd.R_drew)); exact HO_11.out, by repeat (first | (with_reducible first | exact HB.out | apply below_alloc | apply pw_below_drewN | apply below_drew1) | exact HB.out)⟩
      · replace c14 := Bool.eq_false_iff.mpr c14
        subst c14
        have H1 : (spec_Pad.l0 kj5 l0 a1 a2 a3 a4 y340 0) = some r := by rw [if_neg (show ¬ (false = true) by decide)] at H; exact H
        clear H
        have H := H1
        clear H1
        have H' := Aside0.mk H
        clear H
        go_wp2
        go_loopg [11, 12] kj5 (fun kq v11 v12 w' => ∃ (x11_2 : List Int) (x12_2 : Int), v12 = .int .i64 x12_2 ∧ Aside0 (spec_Pad.l0 kq l0 a1 a2 a3 a4 x11_2 x12_2 = some r) ∧ Aside0 (kq ≤ kj5) ∧ Aside0 (Kd.R (Kd.int .i64) 3 w' w.heap.size (fun _ => True) v11 x11_2) ∧ Aside0 (Below w.heap.size w w'))
        case atStart => exact ⟨(y340), (0), (by first | rfl | (simp; done) | (simp [*]; done)), H', ⟨Nat.le_refl _⟩, ⟨by (with_reducible repeat (first | apply Kd.R_alloc | apply Kd.R_drewN | apply Kd.R_drew)); exact HO_11.out⟩, ⟨by repeat (first | (with_reducible first | exact HB.out | apply below_alloc | apply pw_below_drewN | apply below_drew1) | exact HB.out)⟩⟩
        case round =>
          clear H'
          try clear c1
          try clear p2
          try clear c3
          try clear c9
          try clear c10
          try clear c12
          try clear c13
          try clear c13b0
          try clear c14
          try clear p2
          obtain ⟨x11_2, x12_2, rfl, HA, HK2, HO_11, HB⟩ := hrel
          cases gk with
          | zero => exact absurd HA.out (by simp [spec_Pad.l0])
          | succ k2 =>
            have H := HA.out
            clear HA
            simp only [spec_Pad.l0] at H
            by_cases c15 : x12_2 < a4
            · rw [if_pos c15] at H
              have c15b0 : decide (x12_2 < a4) = true := decide_eq_true c15
              clear c15
              have H' := Aside0.mk H
              clear H
              go_wp2
              go_loopg [11, 13] k2 (fun kq v11 v13 w' => ∃ (x11_3 : List Int) (x13_3 : Int), v13 = .int .i64 x13_3 ∧ Aside0 (spec_Pad.l1 kq l0 a1 a2 a3 a4 x11_3 x12_2 x13_3 = some r) ∧ Aside0 (kq ≤ k2) ∧ Aside0 (Kd.R (Kd.int .i64) 3 w' w.heap.size (fun _ => True) v11 x11_3) ∧ Aside0 (Below w.heap.size w w'))
              case atStart => exact ⟨(x11_2), (0), (by first | rfl | (simp; done) | (simp [*]; done)), H', ⟨Nat.le_refl _⟩, ⟨by (with_reducible repeat (first | apply Kd.R_alloc | apply Kd.R_drewN | apply Kd.R_drew)); exact HO_11.out⟩, ⟨by repeat (first | (with_reducible first | exact HB.out | apply below_alloc | apply pw_below_drewN | apply below_drew1) | exact HB.out)⟩⟩
              case round =>
                clear H'
                try clear c1
                try clear p2
                try clear c3
                try clear c9
                try clear c10
                try clear c12
                try clear c13
                try clear c13b0
                try clear c14
                try clear c15
                try clear c15b0
                try clear p2
                obtain ⟨x11_3, x13_3, rfl, HA, HK3, HO_11, HB⟩ := hrel
                cases gk with
                | zero => exact absurd HA.out (by simp [spec_Pad.l1])
                | succ k3 =>
                  have H := HA.out
                  clear HA
                  simp only [spec_Pad.l1] at H
                  by_cases c16 : x13_3 < a3
                  · rw [if_pos c16] at H
                    have c16b0 : decide (x13_3 < a3) = true := decide_eq_true c16
                    clear c16
                    replace H := Option.bind_eq_some_iff.mp H
                    obtain ⟨t345, A170, H⟩ := H
                    replace H : ((spec_l16Least.f x13_3 (wrap64 (a1 - 1))).bind fun t346 => (if 0 ≤ (wrap64 ((wrap64 (t345 * a1)) + t346)) then (if (wrap64 ((wrap64 (t345 * a1)) + t346)) < (l0.length : Int) then (if x11_3.length < 17592186044416 then (spec_Pad.l1 k3 l0 a1 a2 a3 a4 (x11_3 ++ [rd l0 (wrap64 ((wrap64 (t345 * a1)) + t346))]) x12_2 (wrap64 (x13_3 + 1))) else (none)) else (none)) else (none))) = some r := H
                    have A17 := Aside0.mk A170
                    clear A170
                    replace H := Option.bind_eq_some_iff.mp H
                    obtain ⟨t346, A180, H⟩ := H
                    replace H : (if 0 ≤ (wrap64 ((wrap64 (t345 * a1)) + t346)) then (if (wrap64 ((wrap64 (t345 * a1)) + t346)) < (l0.length : Int) then (if x11_3.length < 17592186044416 then (spec_Pad.l1 k3 l0 a1 a2 a3 a4 (x11_3 ++ [rd l0 (wrap64 ((wrap64 (t345 * a1)) + t346))]) x12_2 (wrap64 (x13_3 + 1))) else (none)) else (none)) else (none)) = some r := H
                    have A18 := Aside0.mk A180
                    clear A180
                    obtain ⟨ji19, hji19⟩ : ∃ j_ : Int, (wrap64 ((wrap64 (t345 * a1)) + t346)) = j_ := ⟨_, rfl⟩
                    replace H : (if 0 ≤ (ji19) then (if (ji19) < (l0.length : Int) then (if x11_3.length < 17592186044416 then (spec_Pad.l1 k3 l0 a1 a2 a3 a4 (x11_3 ++ [rd l0 (ji19)]) x12_2 (wrap64 (x13_3 + 1))) else (none)) else (none)) else (none)) = some r := by first | (rw [hji19] at H; exact H) | (simp only [hji19] at H ⊢; exact H)
                    (try rw [hji19] at A17)
                    (try rw [hji19] at A18)
                    have hji19w : (IntKind.i64.wrap ((wrap64 (t345 * a1)) + t346)) = ji19 := (i64_w _).trans hji19
                    by_cases c20 : 0 ≤ (ji19)
                    · rw [if_pos c20] at H
                      have c20b0 : decide (0 ≤ (ji19)) = true := decide_eq_true c20
                      clear c20
                      by_cases c21 : (ji19) < (l0.length : Int)
                      · rw [if_pos c21] at H
                        have c21b0 : decide ((ji19) < (l0.length : Int)) = true := decide_eq_true c21
                        clear c21
                        by_cases c22 : x11_3.length < 17592186044416
                        · rw [if_pos c22] at H
                          have LMc22 := Aside0.mk c22
                          clear c22
                          obtain ⟨y348, hy348⟩ : ∃ y_ : List Int, y_ = (x11_3 ++ [rd l0 (ji19)]) := ⟨_, rfl⟩
                          replace H : (spec_Pad.l1 k3 l0 a1 a2 a3 a4 y348 x12_2 (wrap64 (x13_3 + 1))) = some r := by first | (rw [hy348]; with_reducible exact H) | (have H2_ := (Option.bind_some _ _).symm.trans H; rw [hy348]; with_reducible exact H2_) | (have H2_ := (Option.bind_some _ _).symm.trans H; with_reducible exact H2_) | with_reducible exact H | (rw [hy348]; exact H) | exact H
                          have Ny348 := Aside0.mk hy348
                          clear hy348
                          have H' := Aside0.mk H
                          clear H
                          go_wp2_with (first | ((with_reducible refine gate_callee (f := 101) rfl ?_); refine goesL_ (some 52) rfl rfl Try.func101 (by kernel_rfl) rfl #[.int .i64 x12_2, .int .i64 (wrap64 (a2 - 1))] rfl (by (try simp only [List.map_toArray, List.map_cons, List.map_nil]); first | done | rfl | (simp only [List.length_drop, List.length_take]; rfl)) ?_; (with_reducible refine (spec_l16Least.calls x12_2 (wrap64 (a2 - 1)) t345 _ A17.out).mono ?_); rintro e w' ⟨rfl, ⟨nd, rfl⟩⟩; refine ⟨_, rfl, ?_⟩) | ((with_reducible refine gate_callee (f := 101) rfl ?_); refine goesL_ (some 58) rfl rfl Try.func101 (by kernel_rfl) rfl #[.int .i64 x13_3, .int .i64 (wrap64 (a1 - 1))] rfl (by (try simp only [List.map_toArray, List.map_cons, List.map_nil]); first | done | rfl | (simp only [List.length_drop, List.length_take]; rfl)) ?_; (with_reducible refine (spec_l16Least.calls x13_3 (wrap64 (a1 - 1)) t346 _ A18.out).mono ?_); rintro e w' ⟨rfl, ⟨nd, rfl⟩⟩; refine ⟨_, rfl, ?_⟩; have p347 : 0 ≤ ((ji19) : Int) := of_decide_eq_true (by first | (with_reducible assumption) | assumption); have q347 : (ji19) < (l0.length : Int) := of_decide_eq_true (by first | (with_reducible assumption) | assumption); obtain ⟨ad347, e347, hx347_0⟩ := Kd.at_int HR0.out (ji19) p347 q347; cases e347; replace hx347_0 := (HB.out.cell (World.block_lt_of_cell? w _ hx347_0)).trans hx347_0; replace p347 := eq_true p347; replace q347 := eq_true q347) | ((with_reducible refine gate_builtin (b := .append) (xs := #[.tmp 47, .tmp 62]) rfl ?_); at_builtin; refine Kd.R_append (Kd.int .i64) (w0 := w) w.heap.size rfl (.tmp 47) (.tmp 62) 22 3 (.int .i64 0) 8 rfl Try.underlying22 info3 rfl (by decide) (by omega) u11 x11_3 (rd l0 (ji19)) [.int .i64 (rd l0 (ji19))] (fun _ => True) (fun _ => False) rfl rfl ?aP (fun _ hk => hk.elim) ?aF ?aO ?aB ?aS ?aL ?_; (case aP => exact rfl); (case aB => exact (by repeat (first | (with_reducible first | exact HB.out | apply below_alloc | apply pw_below_drewN | apply below_drew1) | exact HB.out))); (case aF => exact (fun _ _ => trivial)); (case aO => exact (by (with_reducible repeat (first | apply Kd.R_alloc | apply Kd.R_drewN | apply Kd.R_drew)); exact HO_11.out)); (case aS => exact (below_size (by repeat (first | (with_reducible first | exact HB.out | apply below_alloc | apply pw_below_drewN | apply below_drew1) | exact HB.out)))); (case aL => have := LMc22.out; omega); intro v349 w23 ho hb hg hat; rw [← Ny348.out] at ho; have n0_ := Aside0.mk (hb); have n1_ := Aside0.mk (ho); clear HB; clear HO_11; have HB := n0_; have HO350 := n1_; clear n0_ n1_; clear ho hb hg hat))
                          go_roundg k3
                          case measure => have := HJ5.out; have := HK2.out; have := HK3.out; omega
                          case rel => exact ⟨(y348), (wrap64 (x13_3 + 1)), (by first | rfl | (simp; done) | (simp [*]; done)), H', ⟨by have := HJ5.out; have := HK2.out; have := HK3.out; omega⟩, ⟨by (with_reducible repeat (first | apply Kd.R_alloc | apply Kd.R_drewN | apply Kd.R_drew)); exact HO350.out⟩, ⟨by repeat (first | (with_reducible first | exact HB.out | apply below_alloc | apply pw_below_drewN | apply below_drew1) | exact HB.out)⟩⟩
                        · rw [if_neg c22] at H
                          exact absurd H (by simp)
                      · rw [if_neg c21] at H
                        exact absurd H (by simp)
                    · rw [if_neg c20] at H
                      exact absurd H (by simp)
                  · rw [if_neg c16] at H
                    have c16b0 : decide (x13_3 < a3) = false := decide_eq_false c16
                    clear c16
                    have H' := Aside0.mk H
                    clear H
                    go_wp2
                    go_roundg k3
                    case measure => have := HJ5.out; have := HK2.out; have := HK3.out; omega
                    case rel => exact ⟨(x11_3), (wrap64 (x12_2 + 1)), (by first | rfl | (simp; done) | (simp [*]; done)), H', ⟨by have := HJ5.out; have := HK2.out; have := HK3.out; omega⟩, ⟨by (with_reducible repeat (first | apply Kd.R_alloc | apply Kd.R_drewN | apply Kd.R_drew)); exact HO_11.out⟩, ⟨by repeat (first | (with_reducible first | exact HB.out | apply below_alloc | apply pw_below_drewN | apply below_drew1) | exact HB.out)⟩⟩
            · rw [if_neg c15] at H
              have c15b0 : decide (x12_2 < a4) = false := decide_eq_false c15
              clear c15
              obtain rfl := Option.some.inj H
              go_wp2
              go_ret
              exact ⟨_, by first | rfl | (simp [errW_none, errW_some] <;> rfl) | (simp [*, errW_none, errW_some] <;> rfl), by (with_reducible repeat (first | apply Kd.R_alloc | apply Kd.R_drewN | apply Kd.R_drew)); exact HO_11.out, by repeat (first | (with_reducible first | exact HB.out | apply below_alloc | apply pw_below_drewN | apply below_drew1) | exact HB.out)⟩

theorem pad_idx (wd h : Int) (y x : Nat) (s1 : 1 ≤ wd) (s2 : wd ≤ 1024) (s3 : 1 ≤ h) (s4 : h ≤ 1024) :
    wrap64 (h - 1) = h - 1 ∧ wrap64 (wd - 1) = wd - 1 ∧ wrap64 (wrap64 (min (y : Int) (h - 1) * wd) + min (x : Int) (wd - 1)) = min (y : Int) (h - 1) * wd + min (x : Int) (wd - 1) ∧ 0 ≤ min (y : Int) (h - 1) * wd + min (x : Int) (wd - 1) ∧ min (y : Int) (h - 1) * wd + min (x : Int) (wd - 1) < wd * h := by
  obtain ⟨my, hmy⟩ : ∃ m, m = min (y : Int) (h - 1) := ⟨_, rfl⟩
  obtain ⟨mx, hmx⟩ : ∃ m, m = min (x : Int) (wd - 1) := ⟨_, rfl⟩
  have y0 : 0 ≤ my := by omega
  have y1 : my + 1 ≤ h := by omega
  have x0 : 0 ≤ mx := by omega
  have x1 : mx + 1 ≤ wd := by omega
  rw [← hmy, ← hmx]
  clear hmy hmx
  have e1 : (my + 1) * wd ≤ h * wd := Int.mul_le_mul_of_nonneg_right (by omega) (by omega)
  rw [Int.add_mul, Int.one_mul, Int.mul_comm h wd] at e1
  have e0 : 0 ≤ my * wd := Int.mul_nonneg (by omega) (by omega)
  have e2 : wd * h ≤ 1024 * 1024 := Int.mul_le_mul s2 s4 (by omega) (by omega)
  generalize my * wd = p at e0 e1 ⊢
  generalize wd * h = q at e1 e2 ⊢
  refine ⟨wrap_in (h - 1) (by omega) (by omega), wrap_in (wd - 1) (by omega) (by omega), ?_, by omega, by omega⟩
  rw [wrap_in p (by omega) (by omega), wrap_in (p + mx) (by omega) (by omega)]
theorem spec_Pad.l1_ev (l : List Int) (wd h : Int) (W H : Nat) (s1 : 1 ≤ wd) (s2 : wd ≤ 1024) (s3 : 1 ≤ h) (s4 : h ≤ 1024) (hW : W ≤ 1024) (hH : H ≤ 1024) (hl : (l.length : Int) = wd * h) (y : Nat) (hy : y < H) (r : List Int)
    (hr : Ev (fun k => spec_Pad.l0 k l wd h (W : Int) (H : Int) (planeM W (y + 1) (padG l wd h)) ((y + 1 : Nat) : Int)) r) :
    ∀ (d x : Nat), x + d = W → Ev (fun k => spec_Pad.l1 k l wd h (W : Int) (H : Int) (planeM W y (padG l wd h) ++ rowM x (padG l wd h) y) (y : Int) (x : Int)) r := by
  intro d
  induction d with
  | zero =>
    intro x hx
    obtain rfl : x = W := by omega
    refine Ev.step (fun _ => by rw [spec_Pad.l1]) (Ev.ng (by omega) ?_)
    rw [wrap_succ y (by omega), ← planeM_succ]
    exact hr
  | succ d ih =>
    intro x hx
    have h3 := ih (x + 1) (by omega)
    rw [rowM_succ, ← List.append_assoc] at h3
    have hlen : (planeM W y (padG l wd h) ++ rowM x (padG l wd h) y).length ≤ 100000000 := by
      have : y * W ≤ 1024 * 1024 := Nat.mul_le_mul (by omega) hW
      rw [List.length_append, planeM_len, rowM_len]; omega
    obtain ⟨e1, e2, e3, e4, e5⟩ := pad_idx wd h y x s1 s2 s3 s4
    refine Ev.step (fun _ => by rw [spec_Pad.l1]) (Ev.ip (by omega) ?_)
    rw [e1, e2]
    refine Ev.bind (Ev.c (spec_l16Least.val _ _)) (Ev.bind (Ev.c (spec_l16Least.val _ _)) ?_)
    rw [e3]
    refine Ev.ip e4 (Ev.ip (by rw [hl]; exact e5) (Ev.ip (by omega) ?_))
    rw [wrap_succ x (by omega)]
    exact h3
theorem spec_Pad.l0_ev (l : List Int) (wd h : Int) (W H : Nat) (s1 : 1 ≤ wd) (s2 : wd ≤ 1024) (s3 : 1 ≤ h) (s4 : h ≤ 1024) (hW : W ≤ 1024) (hH : H ≤ 1024) (hl : (l.length : Int) = wd * h) :
    ∀ (d y : Nat), y + d = H → Ev (fun k => spec_Pad.l0 k l wd h (W : Int) (H : Int) (planeM W y (padG l wd h)) (y : Int)) (planeM W H (padG l wd h)) := by
  intro d
  induction d with
  | zero =>
    intro y hy
    obtain rfl : y = H := by omega
    exact Ev.step (fun _ => by rw [spec_Pad.l0]) (Ev.ng (by omega) (Ev.now _))
  | succ d ih =>
    intro y hy
    refine Ev.step (fun _ => by rw [spec_Pad.l0]) (Ev.ip (by omega) ?_)
    have := spec_Pad.l1_ev l wd h W H s1 s2 s3 s4 hW hH hl y (by omega) _ (ih (y + 1) (by omega)) W 0 (Nat.zero_add _)
    rw [show rowM 0 (padG l wd h) y = [] from rfl, List.append_nil] at this
    exact this
theorem spec_Pad.ev (l : List Int) (w h nw nh : Int) : Ev (fun k => spec_Pad.f k l w h nw nh) (if isGr l w h nw nh then planeM nw.toNat nh.toNat (padG l w h) else []) := by
  unfold spec_Pad.f
  refine Ev.bind (Ev.now _) (Ev.bind (spec_PlaneOk.ev l w h) ?_)
  by_cases hp : planeOk l w h = true
  · obtain ⟨p1, p2, p3⟩ := plane_of hp
    obtain ⟨s1, s2, s3, s4, s5⟩ := sides_of p1
    refine Ev.ip hp (Ev.bind (Ev.c (spec_l16Sides.val _ _)) ?_)
    by_cases h1 : sidesOk nw nh = true
    · obtain ⟨t1, t2, t3, t4, t5⟩ := sides_of h1
      refine Ev.ip h1 ?_
      by_cases h2 : nw < w
      · rw [if_neg (by unfold isGr; rw [decide_eq_false (show ¬ nw ≥ w by omega)]; simp)]
        exact Ev.ip h2 (Ev.step (fun _ => by rw [spec_Pad.j0]) (Ev.ip rfl (Ev.now _)))
      · refine Ev.ng h2 ?_
        by_cases h3 : nh < h
        · rw [if_neg (by unfold isGr; rw [decide_eq_false (show ¬ nh ≥ h by omega)]; simp), decide_eq_true h3]
          exact Ev.step (fun _ => by rw [spec_Pad.j0]) (Ev.ip rfl (Ev.now _))
        · rw [if_pos (by unfold isGr; rw [hp, h1, decide_eq_true (show nw ≥ w by omega), decide_eq_true (show nh ≥ h by omega)]; rfl), decide_eq_false h3]
          refine Ev.step (fun _ => by rw [spec_Pad.j0]) (Ev.ng (by simp) ?_)
          obtain ⟨W, rfl⟩ := Int.eq_ofNat_of_zero_le (show 0 ≤ nw by omega)
          obtain ⟨H, rfl⟩ := Int.eq_ofNat_of_zero_le (show 0 ≤ nh by omega)
          rw [Int.toNat_natCast, Int.toNat_natCast]
          exact spec_Pad.l0_ev l w h W H s1 s2 s3 s4 (by omega) (by omega) p2 H 0 (Nat.zero_add _)
    · rw [if_neg (by unfold isGr; rw [Bool.eq_false_iff.2 h1]; simp)]
      exact Ev.ng h1 (Ev.step (fun _ => by rw [spec_Pad.j0]) (Ev.ip rfl (Ev.now _)))
  · rw [if_neg (by unfold isGr; rw [Bool.eq_false_iff.2 hp]; simp)]
    exact Ev.ng hp (Ev.step (fun _ => by rw [spec_Pad.j0]) (Ev.ip rfl (Ev.now _)))

end Go.Proofs.Ytcjjmfpkhhdmlaa.G
