-- Written by gp.py (a program of this session's, over the kit's print). Not trusted: Lean checks it.
import Derived.Test.YtcjjmfpkhhdmlaaG0h
import Derived.Test.YtcjjmfpkhhdmlaaG89
import Derived.Test.YtcjjmfpkhhdmlaaG90
import Derived.Test.YtcjjmfpkhhdmlaaG91
import Derived.Test.YtcjjmfpkhhdmlaaG95
import Derived.Test.YtcjjmfpkhhdmlaaGLib
namespace Go.Proofs.Ytcjjmfpkhhdmlaa.G
open Go.RowKit Go.Proofs.YtcjjmfpkhhdmlaaW.PrintWords Go.Proofs.YtcjjmfpkhhdmlaaW.PrintLast Go.Proofs.YtcjjmfpkhhdmlaaW.PrintMore
attribute [local go_sem] max2_int min2_int max_two min_two max_three min_three max_four min_four   -- for this text's walks alone
set_option linter.unusedVariables false
set_option linter.unusedSimpArgs false

/-! ### spec_CutBlocks: function 28 -/
mutual
def spec_CutBlocks.j0 : Nat → List Int → Int → Int → List (List Int) → Bool → Option ((List (List Int)))
  | 0, _, _, _, _, _ => none
  | k + 1, x0, x1, x2, x7, x27 => if x27 = true then (some x7) else (spec_CutBlocks.l0 k x0 x1 x2 x7 0)
def spec_CutBlocks.l0 : Nat → List Int → Int → Int → List (List Int) → Int → Option ((List (List Int)))
  | 0, _, _, _, _, _ => none
  | k + 1, x0, x1, x2, x7, x8 => if x8 < (wrap64 (Int.tdiv x2 8)) then (spec_CutBlocks.l1 k x0 x1 x2 x7 x8 0) else (some x7)
def spec_CutBlocks.l1 : Nat → List Int → Int → Int → List (List Int) → Int → Int → Option ((List (List Int)))
  | 0, _, _, _, _, _, _ => none
  | k + 1, x0, x1, x2, x7, x8, x9 => if x9 < (wrap64 (Int.tdiv x1 8)) then (spec_CutBlocks.l2 k x0 x1 x2 x7 x8 x9 (([] : List Int)) 0) else (spec_CutBlocks.l0 k x0 x1 x2 x7 (wrap64 (x8 + 1)))
def spec_CutBlocks.l2 : Nat → List Int → Int → Int → List (List Int) → Int → Int → List Int → Int → Option ((List (List Int)))
  | 0, _, _, _, _, _, _, _, _ => none
  | k + 1, x0, x1, x2, x7, x8, x9, x10, x11 => if x11 < 64 then (if 0 ≤ (wrap64 ((wrap64 ((wrap64 ((wrap64 ((wrap64 (8 * x8)) + (wrap64 (Int.tdiv x11 8)))) * x1)) + (wrap64 (8 * x9)))) + (Int.tmod x11 8))) then (if (wrap64 ((wrap64 ((wrap64 ((wrap64 ((wrap64 (8 * x8)) + (wrap64 (Int.tdiv x11 8)))) * x1)) + (wrap64 (8 * x9)))) + (Int.tmod x11 8))) < (x0.length : Int) then (if x10.length < 17592186044416 then (spec_CutBlocks.l2 k x0 x1 x2 x7 x8 x9 (x10 ++ [rd x0 (wrap64 ((wrap64 ((wrap64 ((wrap64 ((wrap64 (8 * x8)) + (wrap64 (Int.tdiv x11 8)))) * x1)) + (wrap64 (8 * x9)))) + (Int.tmod x11 8)))]) (wrap64 (x11 + 1))) else (none)) else (none)) else (none)) else (if x7.length < 5864062014805 then (spec_CutBlocks.l1 k x0 x1 x2 (x7 ++ [x10]) x8 (wrap64 (x9 + 1))) else (none))
end
def spec_CutBlocks.f (k : Nat) (l0 : List Int) (a1 : Int) (a2 : Int) : Option ((List (List Int))) := (some (([] : List (List Int)) : List (List Int))).bind fun y275 => ((spec_PlaneOk.f k l0 a1 a2).bind fun t278 => (if t278 = true then (if (Int.tmod a1 8) = 0 then (spec_CutBlocks.j0 k l0 a1 a2 y275 ((Int.tmod a2 8) != 0)) else (spec_CutBlocks.j0 k l0 a1 a2 y275 true)) else (spec_CutBlocks.j0 k l0 a1 a2 y275 true)))
theorem spec_CutBlocks.mono_l : ∀ k, (∀ y0 y1 y2 y3 y4, LeO (spec_CutBlocks.j0 k y0 y1 y2 y3 y4) (spec_CutBlocks.j0 (k + 1) y0 y1 y2 y3 y4)) ∧ (∀ y0 y1 y2 y3 y4, LeO (spec_CutBlocks.l0 k y0 y1 y2 y3 y4) (spec_CutBlocks.l0 (k + 1) y0 y1 y2 y3 y4)) ∧ (∀ y0 y1 y2 y3 y4 y5, LeO (spec_CutBlocks.l1 k y0 y1 y2 y3 y4 y5) (spec_CutBlocks.l1 (k + 1) y0 y1 y2 y3 y4 y5)) ∧ (∀ y0 y1 y2 y3 y4 y5 y6 y7, LeO (spec_CutBlocks.l2 k y0 y1 y2 y3 y4 y5 y6 y7) (spec_CutBlocks.l2 (k + 1) y0 y1 y2 y3 y4 y5 y6 y7))
  | 0 => ⟨fun _ _ _ _ _ r h => by simp [spec_CutBlocks.j0] at h, fun _ _ _ _ _ r h => by simp [spec_CutBlocks.l0] at h, fun _ _ _ _ _ _ r h => by simp [spec_CutBlocks.l1] at h, fun _ _ _ _ _ _ _ _ r h => by simp [spec_CutBlocks.l2] at h⟩
  | k + 1 => by
    obtain ⟨ih0, ih1, ih2, ih3⟩ := spec_CutBlocks.mono_l k
    refine ⟨?_, ?_, ?_, ?_⟩
    · intro y0 y1 y2 y3 y4
      unfold spec_CutBlocks.j0
      repeat' first
      | (with_reducible exact ih0 _ _ _ _ _)
      | (with_reducible exact ih1 _ _ _ _ _)
      | (with_reducible exact ih2 _ _ _ _ _ _)
      | (with_reducible exact ih3 _ _ _ _ _ _ _ _)
      | (with_reducible exact spec_PlaneOk.mono _ _ _ _)
      | (with_reducible exact LeO.refl _)
      | (with_reducible exact LeO.none _)
      | (with_reducible refine LeO.ite ?_ ?_)
      | (with_reducible refine LeO.bind ?_ (fun _ => ?_))
      | exact ih0 _ _ _ _ _
      | exact ih1 _ _ _ _ _
      | exact ih2 _ _ _ _ _ _
      | exact ih3 _ _ _ _ _ _ _ _
      | exact spec_PlaneOk.mono _ _ _ _
      | exact LeO.none _
      | refine LeO.ite ?_ ?_
      | refine LeO.bind ?_ (fun _ => ?_)
    · intro y0 y1 y2 y3 y4
      unfold spec_CutBlocks.l0
      repeat' first
      | (with_reducible exact ih0 _ _ _ _ _)
      | (with_reducible exact ih1 _ _ _ _ _)
      | (with_reducible exact ih2 _ _ _ _ _ _)
      | (with_reducible exact ih3 _ _ _ _ _ _ _ _)
      | (with_reducible exact spec_PlaneOk.mono _ _ _ _)
      | (with_reducible exact LeO.refl _)
      | (with_reducible exact LeO.none _)
      | (with_reducible refine LeO.ite ?_ ?_)
      | (with_reducible refine LeO.bind ?_ (fun _ => ?_))
      | exact ih0 _ _ _ _ _
      | exact ih1 _ _ _ _ _
      | exact ih2 _ _ _ _ _ _
      | exact ih3 _ _ _ _ _ _ _ _
      | exact spec_PlaneOk.mono _ _ _ _
      | exact LeO.none _
      | refine LeO.ite ?_ ?_
      | refine LeO.bind ?_ (fun _ => ?_)
    · intro y0 y1 y2 y3 y4 y5
      unfold spec_CutBlocks.l1
      repeat' first
      | (with_reducible exact ih0 _ _ _ _ _)
      | (with_reducible exact ih1 _ _ _ _ _)
      | (with_reducible exact ih2 _ _ _ _ _ _)
      | (with_reducible exact ih3 _ _ _ _ _ _ _ _)
      | (with_reducible exact spec_PlaneOk.mono _ _ _ _)
      | (with_reducible exact LeO.refl _)
      | (with_reducible exact LeO.none _)
      | (with_reducible refine LeO.ite ?_ ?_)
      | (with_reducible refine LeO.bind ?_ (fun _ => ?_))
      | exact ih0 _ _ _ _ _
      | exact ih1 _ _ _ _ _
      | exact ih2 _ _ _ _ _ _
      | exact ih3 _ _ _ _ _ _ _ _
      | exact spec_PlaneOk.mono _ _ _ _
      | exact LeO.none _
      | refine LeO.ite ?_ ?_
      | refine LeO.bind ?_ (fun _ => ?_)
    · intro y0 y1 y2 y3 y4 y5 y6 y7
      unfold spec_CutBlocks.l2
      repeat' first
      | (with_reducible exact ih0 _ _ _ _ _)
      | (with_reducible exact ih1 _ _ _ _ _)
      | (with_reducible exact ih2 _ _ _ _ _ _)
      | (with_reducible exact ih3 _ _ _ _ _ _ _ _)
      | (with_reducible exact spec_PlaneOk.mono _ _ _ _)
      | (with_reducible exact LeO.refl _)
      | (with_reducible exact LeO.none _)
      | (with_reducible refine LeO.ite ?_ ?_)
      | (with_reducible refine LeO.bind ?_ (fun _ => ?_))
      | exact ih0 _ _ _ _ _
      | exact ih1 _ _ _ _ _
      | exact ih2 _ _ _ _ _ _
      | exact ih3 _ _ _ _ _ _ _ _
      | exact spec_PlaneOk.mono _ _ _ _
      | exact LeO.none _
      | refine LeO.ite ?_ ?_
      | refine LeO.bind ?_ (fun _ => ?_)
theorem spec_CutBlocks.mono : ∀ a0 a1 a2 k, LeO (spec_CutBlocks.f k a0 a1 a2) (spec_CutBlocks.f (k + 1) a0 a1 a2) := by
  intro a0 a1 a2 k
  obtain ⟨ih0, ih1, ih2, ih3⟩ := spec_CutBlocks.mono_l k
  unfold spec_CutBlocks.f
  repeat' first
      | (with_reducible exact ih0 _ _ _ _ _)
      | (with_reducible exact ih1 _ _ _ _ _)
      | (with_reducible exact ih2 _ _ _ _ _ _)
      | (with_reducible exact ih3 _ _ _ _ _ _ _ _)
      | (with_reducible exact spec_PlaneOk.mono _ _ _ _)
      | (with_reducible exact LeO.refl _)
      | (with_reducible exact LeO.none _)
      | (with_reducible refine LeO.ite ?_ ?_)
      | (with_reducible refine LeO.bind ?_ (fun _ => ?_))
      | exact ih0 _ _ _ _ _
      | exact ih1 _ _ _ _ _
      | exact ih2 _ _ _ _ _ _
      | exact ih3 _ _ _ _ _ _ _ _
      | exact spec_PlaneOk.mono _ _ _ _
      | exact LeO.none _
      | refine LeO.ite ?_ ?_
      | refine LeO.bind ?_ (fun _ => ?_)
set_option maxHeartbeats 8000000 in
set_option maxRecDepth 100000 in
theorem spec_CutBlocks.calls (k : Nat) (A0 : Option Addr) (c0 : Nat) (l0 : List Int) (a1 : Int) (a2 : Int) (r : List (List Int)) (w : World) (hr0 : Kd.C (Kd.int .i64) w A0 l0.length l0) (hc0 : l0.length ≤ c0) (h : spec_CutBlocks.f k l0 a1 a2 = some r) :
    Calls Try.prog 28 #[.slice A0 l0.length c0, .int .i64 a1, .int .i64 a2] w fun e w' => ∃ v0_ : Value, e = .returned (v0_) ∧ Kd.S (Kd.slice 3 (Kd.int .i64)) 22 w' w.heap.size (fun _ => True) v0_ r ∧ Below w.heap.size w w' := by
  have HR0 := Aside0.mk hr0
  have HC0 := Aside0.mk hc0
  clear hr0 hc0
  have HB := Aside0.mk (Below.refl w.heap.size w)
  have H : ((some (([] : List (List Int)) : List (List Int))).bind fun y275 => ((spec_PlaneOk.f k l0 a1 a2).bind fun t278 => (if t278 = true then (if (Int.tmod a1 8) = 0 then (spec_CutBlocks.j0 k l0 a1 a2 y275 ((Int.tmod a2 8) != 0)) else (spec_CutBlocks.j0 k l0 a1 a2 y275 true)) else (spec_CutBlocks.j0 k l0 a1 a2 y275 true)))) = some r := h
  clear h
  obtain ⟨y275, hy275⟩ : ∃ y_ : List (List Int), y_ = (([] : List (List Int))) := ⟨_, rfl⟩
  replace H : ((spec_PlaneOk.f k l0 a1 a2).bind fun t278 => (if t278 = true then (if (Int.tmod a1 8) = 0 then (spec_CutBlocks.j0 k l0 a1 a2 y275 ((Int.tmod a2 8) != 0)) else (spec_CutBlocks.j0 k l0 a1 a2 y275 true)) else (spec_CutBlocks.j0 k l0 a1 a2 y275 true))) = some r := by first | (rw [hy275]; with_reducible exact H) | (have H2_ := (Option.bind_some _ _).symm.trans H; rw [hy275]; with_reducible exact H2_) | (have H2_ := (Option.bind_some _ _).symm.trans H; with_reducible exact H2_) | with_reducible exact H | (rw [hy275]; exact H) | exact H
  have Ny275 := Aside0.mk hy275
  clear hy275
  have HC4 := Aside0.mk H
  clear H
  go_enter Try.func28, Try.ntmps28
  go_upto_region 2 with (first | ((with_reducible refine gate_dst (N := 12) rfl ?_); refine Kd.S_lit (Kd.slice 3 (Kd.int .i64)) _ 22 ?hg (N := 12) ?hd (xs := ([] : List (List Int))) (inner := []) (ok := fun _ => True) (okp := fun _ => True) ?hr ?hp (fun _ hk => hk) trivial (Below.refl _ _) (Nat.le_refl _) (by simp) ?_; (case hd => rfl); (case hg => rfl); (case hr => first | (go_simp; done) | (go_simp; rfl)); (case hp => exact (Reps.none _ _)); intro v276 w5 ho6 hb hg_ hnew_; clear hg_ hnew_; (first | rw [← Ny275.out] at ho6 | (simp only [Int.reduceToNat] at ho6; rw [← Ny275.out] at ho6)); have n0_ := Aside0.mk (Kd.S_lower ho6 (below_size (by repeat (first | (with_reducible first | exact HB.out | apply below_alloc | apply pw_below_drewN | apply below_drew1) | exact HB.out)))); have n1_ := Aside0.mk (below_step (by repeat (first | (with_reducible first | exact HB.out | apply below_alloc | apply pw_below_drewN | apply below_drew1) | exact HB.out)) hb); clear HB; have HO277 := n0_; have HB := n1_; clear n0_ n1_; clear hb ho6))
  (try simp only [Act.put, List.setIfInBounds_toArray, List.set_cons_zero, List.set_cons_succ])
  go_cut [27] (fun v27 wc => ∃ (kq : Nat) (x27_3 : Bool), v27 = .bool x27_3 ∧ Aside0 (spec_CutBlocks.j0 kq l0 a1 a2 y275 x27_3 = some r) ∧ Aside0 (kq ≤ k) ∧ Aside0 (Kd.S (Kd.slice 3 (Kd.int .i64)) 22 wc w.heap.size (fun _ => True) v276 y275) ∧ Aside0 (Below w.heap.size w wc))
  case first =>
    have H := HC4.out
    clear HC4
    replace H := Option.bind_eq_some_iff.mp H
    obtain ⟨t278, A70, H⟩ := H
    replace H : (if t278 = true then (if (Int.tmod a1 8) = 0 then (spec_CutBlocks.j0 k l0 a1 a2 y275 ((Int.tmod a2 8) != 0)) else (spec_CutBlocks.j0 k l0 a1 a2 y275 true)) else (spec_CutBlocks.j0 k l0 a1 a2 y275 true)) = some r := H
    have A7 := Aside0.mk A70
    clear A70
    by_cases c8 : t278 = true
    · subst c8
      have H1 : (if (Int.tmod a1 8) = 0 then (spec_CutBlocks.j0 k l0 a1 a2 y275 ((Int.tmod a2 8) != 0)) else (spec_CutBlocks.j0 k l0 a1 a2 y275 true)) = some r := by rw [if_pos rfl] at H; exact H
      clear H
      have H := H1
      clear H1
      by_cases c9 : (Int.tmod a1 8) = 0
      · rw [if_pos c9] at H
        have c9b0 : ((Int.tmod a1 8) == 0) = true := beq_iff_eq.mpr c9
        have c9b1 : ((Int.tmod a1 8) != 0) = false := bne_eq_false_iff_eq.mpr c9
        clear c9
        (first | rw [c9b0] | (simp only [i64_w, i32_w]; rw [c9b0]) | skip)
        have H' := Aside0.mk H
        clear H
        go_wp2_with (first | ((with_reducible refine gate_callee (f := 90) rfl ?_); refine goesL_ (some 16) rfl rfl Try.func90 (by kernel_rfl) rfl #[.slice A0 l0.length c0, .int .i64 a1, .int .i64 a2] rfl (by (try simp only [List.map_toArray, List.map_cons, List.map_nil]); first | done | rfl | (simp only [List.length_drop, List.length_take]; rfl)) ?_; (with_reducible refine (spec_PlaneOk.calls k _ _ l0 a1 a2 true _ ?side1 ?side2 A7.out).mono ?_); (case side1 => repeat (first | exact (Kd.C_below HR0.out HB.out) | (with_reducible refine Kd.C_alloc ?_ _) | (with_reducible refine Kd.C_drewN ?_ _) | (with_reducible refine Kd.C_drew ?_))); (case side2 => exact HC0.out); rintro e w' ⟨rfl, ⟨nd, rfl⟩⟩; refine ⟨_, rfl, ?_⟩))
        go_meet
        case rel => exact ⟨_, (((Int.tmod a2 8) != 0)), (by first | rfl | (simp; done) | (simp [*]; done)), H', ⟨by first | omega | exact Nat.le_refl _⟩, ⟨by (with_reducible repeat (first | apply Kd.S_alloc | apply Kd.S_drewN | apply Kd.S_drew)); exact HO277.out⟩, ⟨by repeat (first | (with_reducible first | exact HB.out | apply below_alloc | apply pw_below_drewN | apply below_drew1) | exact HB.out)⟩⟩
      · rw [if_neg c9] at H
        have c9b0 : ((Int.tmod a1 8) == 0) = false := beq_eq_false_iff_ne.mpr c9
        have c9b1 : ((Int.tmod a1 8) != 0) = true := bne_iff_ne.mpr c9
        (first | rw [c9b0] | (simp only [i64_w, i32_w]; rw [c9b0]) | skip)
        have H' := Aside0.mk H
        clear H
        go_wp2_with (first | ((with_reducible refine gate_callee (f := 90) rfl ?_); refine goesL_ (some 16) rfl rfl Try.func90 (by kernel_rfl) rfl #[.slice A0 l0.length c0, .int .i64 a1, .int .i64 a2] rfl (by (try simp only [List.map_toArray, List.map_cons, List.map_nil]); first | done | rfl | (simp only [List.length_drop, List.length_take]; rfl)) ?_; (with_reducible refine (spec_PlaneOk.calls k _ _ l0 a1 a2 true _ ?side1 ?side2 A7.out).mono ?_); (case side1 => repeat (first | exact (Kd.C_below HR0.out HB.out) | (with_reducible refine Kd.C_alloc ?_ _) | (with_reducible refine Kd.C_drewN ?_ _) | (with_reducible refine Kd.C_drew ?_))); (case side2 => exact HC0.out); rintro e w' ⟨rfl, ⟨nd, rfl⟩⟩; refine ⟨_, rfl, ?_⟩))
        go_meet
        case rel => exact ⟨_, (true), (by first | rfl | (simp; done) | (simp [*]; done)), H', ⟨by first | omega | exact Nat.le_refl _⟩, ⟨by (with_reducible repeat (first | apply Kd.S_alloc | apply Kd.S_drewN | apply Kd.S_drew)); exact HO277.out⟩, ⟨by repeat (first | (with_reducible first | exact HB.out | apply below_alloc | apply pw_below_drewN | apply below_drew1) | exact HB.out)⟩⟩
    · replace c8 := Bool.eq_false_iff.mpr c8
      subst c8
      have H1 : (spec_CutBlocks.j0 k l0 a1 a2 y275 true) = some r := by rw [if_neg (show ¬ (false = true) by decide)] at H; exact H
      clear H
      have H := H1
      clear H1
      have H' := Aside0.mk H
      clear H
      go_wp2_with (first | ((with_reducible refine gate_callee (f := 90) rfl ?_); refine goesL_ (some 16) rfl rfl Try.func90 (by kernel_rfl) rfl #[.slice A0 l0.length c0, .int .i64 a1, .int .i64 a2] rfl (by (try simp only [List.map_toArray, List.map_cons, List.map_nil]); first | done | rfl | (simp only [List.length_drop, List.length_take]; rfl)) ?_; (with_reducible refine (spec_PlaneOk.calls k _ _ l0 a1 a2 false _ ?side1 ?side2 A7.out).mono ?_); (case side1 => repeat (first | exact (Kd.C_below HR0.out HB.out) | (with_reducible refine Kd.C_alloc ?_ _) | (with_reducible refine Kd.C_drewN ?_ _) | (with_reducible refine Kd.C_drew ?_))); (case side2 => exact HC0.out); rintro e w' ⟨rfl, ⟨nd, rfl⟩⟩; refine ⟨_, rfl, ?_⟩))
      go_meet
      case rel => exact ⟨_, (true), (by first | rfl | (simp; done) | (simp [*]; done)), H', ⟨by first | omega | exact Nat.le_refl _⟩, ⟨by (with_reducible repeat (first | apply Kd.S_alloc | apply Kd.S_drewN | apply Kd.S_drew)); exact HO277.out⟩, ⟨by repeat (first | (with_reducible first | exact HB.out | apply below_alloc | apply pw_below_drewN | apply below_drew1) | exact HB.out)⟩⟩
  case rest =>
    clear HC4
    try clear c2
    try clear p2
    try clear c8
    try clear c9
    try clear c9b0
    try clear c9b1
    obtain ⟨kq, x27_3, rfl, HA, HJ3, HO_7, HB⟩ := hcut
    cases kq with
    | zero => exact absurd HA.out (by simp [spec_CutBlocks.j0])
    | succ kj3 =>
      have H := HA.out
      clear HA
      simp only [spec_CutBlocks.j0] at H
      by_cases c10 : x27_3 = true
      · subst c10
        have H1 : (some y275) = some r := by rw [if_pos rfl] at H; exact H
        clear H
        have H := H1
        clear H1
        obtain rfl := Option.some.inj H
        go_wp2
        go_ret
        exact ⟨_, by first | rfl | (simp [errW_none, errW_some] <;> rfl) | (simp [*, errW_none, errW_some] <;> rfl), by (with_reducible repeat (first | apply Kd.S_alloc | apply Kd.S_drewN | apply Kd.S_drew)); exact HO_7.out, by repeat (first | (with_reducible first | exact HB.out | apply below_alloc | apply pw_below_drewN | apply below_drew1) | exact HB.out)⟩
      · replace c10 := Bool.eq_false_iff.mpr c10
        subst c10
        have H1 : (spec_CutBlocks.l0 kj3 l0 a1 a2 y275 0) = some r := by rw [if_neg (show ¬ (false = true) by decide)] at H; exact H
        clear H
        have H := H1
        clear H1
        have H' := Aside0.mk H
        clear H
        go_wp2
        go_loopg [7, 8] kj3 (fun kq v7 v8 w' => ∃ (x7_2 : List (List Int)) (x8_2 : Int), v8 = .int .i64 x8_2 ∧ Aside0 (spec_CutBlocks.l0 kq l0 a1 a2 x7_2 x8_2 = some r) ∧ Aside0 (kq ≤ kj3) ∧ Aside0 (Kd.S (Kd.slice 3 (Kd.int .i64)) 22 w' w.heap.size (fun _ => True) v7 x7_2) ∧ Aside0 (Below w.heap.size w w'))
        case atStart => exact ⟨(y275), (0), (by first | rfl | (simp; done) | (simp [*]; done)), H', ⟨Nat.le_refl _⟩, ⟨by (with_reducible repeat (first | apply Kd.S_alloc | apply Kd.S_drewN | apply Kd.S_drew)); exact HO_7.out⟩, ⟨by repeat (first | (with_reducible first | exact HB.out | apply below_alloc | apply pw_below_drewN | apply below_drew1) | exact HB.out)⟩⟩
        case round =>
          clear H'
          try clear c1
          try clear c2
          try clear p2
          try clear c8
          try clear c9
          try clear c9b0
          try clear c9b1
          try clear c10
          try clear p2
          obtain ⟨x7_2, x8_2, rfl, HA, HK2, HO_7, HB⟩ := hrel
          cases gk with
          | zero => exact absurd HA.out (by simp [spec_CutBlocks.l0])
          | succ k2 =>
            have H := HA.out
            clear HA
            simp only [spec_CutBlocks.l0] at H
            by_cases c11 : x8_2 < (wrap64 (Int.tdiv a2 8))
            · rw [if_pos c11] at H
              have c11b0 : decide (x8_2 < (wrap64 (Int.tdiv a2 8))) = true := decide_eq_true c11
              clear c11
              have H' := Aside0.mk H
              clear H
              go_wp2
              go_loopg [7, 9] k2 (fun kq v7 v9 w' => ∃ (x7_3 : List (List Int)) (x9_3 : Int), v9 = .int .i64 x9_3 ∧ Aside0 (spec_CutBlocks.l1 kq l0 a1 a2 x7_3 x8_2 x9_3 = some r) ∧ Aside0 (kq ≤ k2) ∧ Aside0 (Kd.S (Kd.slice 3 (Kd.int .i64)) 22 w' w.heap.size (fun _ => True) v7 x7_3) ∧ Aside0 (Below w.heap.size w w'))
              case atStart => exact ⟨(x7_2), (0), (by first | rfl | (simp; done) | (simp [*]; done)), H', ⟨Nat.le_refl _⟩, ⟨by (with_reducible repeat (first | apply Kd.S_alloc | apply Kd.S_drewN | apply Kd.S_drew)); exact HO_7.out⟩, ⟨by repeat (first | (with_reducible first | exact HB.out | apply below_alloc | apply pw_below_drewN | apply below_drew1) | exact HB.out)⟩⟩
              case round =>
                clear H'
                try clear c1
                try clear c2
                try clear p2
                try clear p6
                try clear c8
                try clear c9
                try clear c9b0
                try clear c9b1
                try clear c10
                try clear c11
                try clear c11b0
                try clear p2
                obtain ⟨x7_3, x9_3, rfl, HA, HK3, HO_7, HB⟩ := hrel
                cases gk with
                | zero => exact absurd HA.out (by simp [spec_CutBlocks.l1])
                | succ k3 =>
                  have H := HA.out
                  clear HA
                  simp only [spec_CutBlocks.l1] at H
                  by_cases c12 : x9_3 < (wrap64 (Int.tdiv a1 8))
                  · rw [if_pos c12] at H
                    have c12b0 : decide (x9_3 < (wrap64 (Int.tdiv a1 8))) = true := decide_eq_true c12
                    clear c12
                    obtain ⟨y279, hy279⟩ : ∃ y_ : List Int, y_ = (([] : List Int)) := ⟨_, rfl⟩
                    replace H : (spec_CutBlocks.l2 k3 l0 a1 a2 x7_3 x8_2 x9_3 y279 0) = some r := by first | (rw [hy279]; with_reducible exact H) | (have H2_ := (Option.bind_some _ _).symm.trans H; rw [hy279]; with_reducible exact H2_) | (have H2_ := (Option.bind_some _ _).symm.trans H; with_reducible exact H2_) | with_reducible exact H | (rw [hy279]; exact H) | exact H
                    have Ny279 := Aside0.mk hy279
                    clear hy279
                    have H' := Aside0.mk H
                    clear H
                    go_wp2_with (first | ((with_reducible refine gate_dst (N := 41) rfl ?_); refine Kd.R_lit (Kd.int .i64) _ 3 ?hg (N := 41) ?hd (xs := ([] : List Int)) (inner := []) (ok := fun _ => True) (okp := fun _ => True) ?hr ?hp (fun _ hk => hk) trivial (Below.refl _ _) (Nat.le_refl _) (by simp) ?_; (case hd => rfl); (case hg => rfl); (case hr => first | (go_simp; done) | (go_simp; rfl)); (case hp => exact (Reps.none _ _)); intro v280 w13 ho14 hb hg_ hnew_; clear hg_ hnew_; (first | rw [← Ny279.out] at ho14 | (simp only [Int.reduceToNat] at ho14; rw [← Ny279.out] at ho14)); have n0_ := Aside0.mk (Kd.S_elder' (by (with_reducible repeat (first | apply Kd.S_alloc | apply Kd.S_drewN | apply Kd.S_drew)); exact HO_7.out) (Kd.R_base ho14) hb); have n1_ := Aside0.mk (Kd.R_lower ho14 (below_size (by repeat (first | (with_reducible first | exact HB.out | apply below_alloc | apply pw_below_drewN | apply below_drew1) | exact HB.out)))); have n2_ := Aside0.mk (below_step (by repeat (first | (with_reducible first | exact HB.out | apply below_alloc | apply pw_below_drewN | apply below_drew1) | exact HB.out)) hb); clear HO_7; clear HB; have HO_7 := n0_; have HO281 := n1_; have HB := n2_; clear n0_ n1_ n2_; clear hb ho14))
                    go_loopg [10, 11] k3 (fun kq v10 v11 w' => ∃ (x10_4 : List Int) (x11_4 : Int), v11 = .int .i64 x11_4 ∧ Aside0 (spec_CutBlocks.l2 kq l0 a1 a2 x7_3 x8_2 x9_3 x10_4 x11_4 = some r) ∧ Aside0 (kq ≤ k3) ∧ Aside0 (Kd.S (Kd.slice 3 (Kd.int .i64)) 22 w' w.heap.size (fun k_ => some k_ ≠ (v10 : Value).ownBlock) u7 x7_3) ∧ Aside0 (Kd.R (Kd.int .i64) 3 w' w.heap.size (fun _ => True) v10 x10_4) ∧ Aside0 (Below w.heap.size w w'))
                    case atStart => exact ⟨(y279), (0), (by first | rfl | (simp; done) | (simp [*]; done)), H', ⟨Nat.le_refl _⟩, ⟨by (with_reducible repeat (first | apply Kd.S_alloc | apply Kd.S_drewN | apply Kd.S_drew)); exact Kd.S_mono HO_7.out (fun _ hk => hk.2)⟩, ⟨by (with_reducible repeat (first | apply Kd.R_alloc | apply Kd.R_drewN | apply Kd.R_drew)); exact HO281.out⟩, ⟨by repeat (first | (with_reducible first | exact HB.out | apply below_alloc | apply pw_below_drewN | apply below_drew1) | exact HB.out)⟩⟩
                    case round =>
                      clear H'
                      try clear c1
                      try clear c2
                      try clear p2
                      try clear p6
                      try clear c8
                      try clear c9
                      try clear c9b0
                      try clear c9b1
                      try clear c10
                      try clear c11
                      try clear c11b0
                      try clear c12
                      try clear c12b0
                      try clear p2
                      try clear p6
                      obtain ⟨x10_4, x11_4, rfl, HA, HK4, HO_7, HO_10, HB⟩ := hrel
                      cases gk with
                      | zero => exact absurd HA.out (by simp [spec_CutBlocks.l2])
                      | succ k4 =>
                        have H := HA.out
                        clear HA
                        simp only [spec_CutBlocks.l2] at H
                        by_cases c15 : x11_4 < 64
                        · rw [if_pos c15] at H
                          have c15b0 : decide (x11_4 < 64) = true := decide_eq_true c15
                          clear c15
                          obtain ⟨ji16, hji16⟩ : ∃ j_ : Int, (wrap64 ((wrap64 ((wrap64 ((wrap64 ((wrap64 (8 * x8_2)) + (wrap64 (Int.tdiv x11_4 8)))) * a1)) + (wrap64 (8 * x9_3)))) + (Int.tmod x11_4 8))) = j_ := ⟨_, rfl⟩
                          replace H : (if 0 ≤ (ji16) then (if (ji16) < (l0.length : Int) then (if x10_4.length < 17592186044416 then (spec_CutBlocks.l2 k4 l0 a1 a2 x7_3 x8_2 x9_3 (x10_4 ++ [rd l0 (ji16)]) (wrap64 (x11_4 + 1))) else (none)) else (none)) else (none)) = some r := by first | (rw [hji16] at H; exact H) | (simp only [hji16] at H ⊢; exact H)
                          have hji16w : (IntKind.i64.wrap ((wrap64 ((wrap64 ((wrap64 ((wrap64 (8 * x8_2)) + (wrap64 (Int.tdiv x11_4 8)))) * a1)) + (wrap64 (8 * x9_3)))) + (Int.tmod x11_4 8))) = ji16 := (i64_w _).trans hji16
                          by_cases c17 : 0 ≤ (ji16)
                          · rw [if_pos c17] at H
                            have c17b0 : decide (0 ≤ (ji16)) = true := decide_eq_true c17
                            clear c17
                            by_cases c18 : (ji16) < (l0.length : Int)
                            · rw [if_pos c18] at H
                              have c18b0 : decide ((ji16) < (l0.length : Int)) = true := decide_eq_true c18
                              clear c18
                              by_cases c19 : x10_4.length < 17592186044416
                              · rw [if_pos c19] at H
                                have LMc19 := Aside0.mk c19
                                clear c19
                                obtain ⟨y283, hy283⟩ : ∃ y_ : List Int, y_ = (x10_4 ++ [rd l0 (ji16)]) := ⟨_, rfl⟩
                                replace H : (spec_CutBlocks.l2 k4 l0 a1 a2 x7_3 x8_2 x9_3 y283 (wrap64 (x11_4 + 1))) = some r := by first | (rw [hy283]; with_reducible exact H) | (have H2_ := (Option.bind_some _ _).symm.trans H; rw [hy283]; with_reducible exact H2_) | (have H2_ := (Option.bind_some _ _).symm.trans H; with_reducible exact H2_) | with_reducible exact H | (rw [hy283]; exact H) | exact H
                                have Ny283 := Aside0.mk hy283
                                clear hy283
                                have H' := Aside0.mk H
                                clear H
                                have p282 : 0 ≤ ((ji16) : Int) := of_decide_eq_true (by first | (with_reducible assumption) | assumption)
                                have q282 : (ji16) < (l0.length : Int) := of_decide_eq_true (by first | (with_reducible assumption) | assumption)
                                obtain ⟨ad282, e282, hx282_0⟩ := Kd.at_int HR0.out (ji16) p282 q282
                                cases e282
                                replace hx282_0 := (HB.out.cell (World.block_lt_of_cell? w _ hx282_0)).trans hx282_0
                                replace p282 := eq_true p282
                                replace q282 := eq_true q282
                                go_wp2_with (first | ((with_reducible refine gate_builtin (b := .append) (xs := #[.tmp 46, .tmp 63]) rfl ?_); at_builtin; refine Kd.R_append (Kd.int .i64) (w0 := w) w.heap.size rfl (.tmp 46) (.tmp 63) 22 3 (.int .i64 0) 8 rfl Try.underlying22 info3 rfl (by decide) (by omega) u10 x10_4 (rd l0 (ji16)) [.int .i64 (rd l0 (ji16))] (fun _ => True) (fun _ => False) rfl rfl ?aP (fun _ hk => hk.elim) ?aF ?aO ?aB ?aS ?aL ?_; (case aP => exact rfl); (case aB => exact (by repeat (first | (with_reducible first | exact HB.out | apply below_alloc | apply pw_below_drewN | apply below_drew1) | exact HB.out))); (case aF => exact (fun _ _ => trivial)); (case aO => exact (by (with_reducible repeat (first | apply Kd.R_alloc | apply Kd.R_drewN | apply Kd.R_drew)); exact HO_10.out)); (case aS => exact (below_size (by repeat (first | (with_reducible first | exact HB.out | apply below_alloc | apply pw_below_drewN | apply below_drew1) | exact HB.out)))); (case aL => have := LMc19.out; omega); intro v284 w20 ho hb hg hat; rw [← Ny283.out] at ho; have n0_ := Aside0.mk (Kd.S_after (ok := (fun _ => True)) (by (with_reducible repeat (first | apply Kd.S_alloc | apply Kd.S_drewN | apply Kd.S_drew)); exact Kd.S_mono HO_7.out (fun _ hk => ⟨trivial, hk⟩)) hg hat); have n1_ := Aside0.mk (hb); have n2_ := Aside0.mk (ho); clear HO_7; clear HB; clear HO_10; have HO_7 := n0_; have HB := n1_; have HO285 := n2_; clear n0_ n1_ n2_; clear ho hb hg hat))
                                go_roundg k4
                                case measure => have := HJ3.out; have := HK2.out; have := HK3.out; have := HK4.out; omega
                                case rel => exact ⟨(y283), (wrap64 (x11_4 + 1)), (by first | rfl | (simp; done) | (simp [*]; done)), H', ⟨by have := HJ3.out; have := HK2.out; have := HK3.out; have := HK4.out; omega⟩, ⟨by (with_reducible repeat (first | apply Kd.S_alloc | apply Kd.S_drewN | apply Kd.S_drew)); exact Kd.S_mono HO_7.out (fun _ hk => hk.2)⟩, ⟨by (with_reducible repeat (first | apply Kd.R_alloc | apply Kd.R_drewN | apply Kd.R_drew)); exact HO285.out⟩, ⟨by repeat (first | (with_reducible first | exact HB.out | apply below_alloc | apply pw_below_drewN | apply below_drew1) | exact HB.out)⟩⟩
                              · rw [if_neg c19] at H
                                exact absurd H (by simp)
                            · rw [if_neg c18] at H
                              exact absurd H (by simp)
                          · rw [if_neg c17] at H
                            exact absurd H (by simp)
                        · rw [if_neg c15] at H
                          have c15b0 : decide (x11_4 < 64) = false := decide_eq_false c15
                          clear c15
                          by_cases c21 : x7_3.length < 5864062014805
                          · rw [if_pos c21] at H
                            have LMc21 := Aside0.mk c21
                            clear c21
                            obtain ⟨y286, hy286⟩ : ∃ y_ : List (List Int), y_ = (x7_3 ++ [x10_4]) := ⟨_, rfl⟩
                            replace H : (spec_CutBlocks.l1 k4 l0 a1 a2 y286 x8_2 (wrap64 (x9_3 + 1))) = some r := by first | (rw [hy286]; with_reducible exact H) | (have H2_ := (Option.bind_some _ _).symm.trans H; rw [hy286]; with_reducible exact H2_) | (have H2_ := (Option.bind_some _ _).symm.trans H; with_reducible exact H2_) | with_reducible exact H | (rw [hy286]; exact H) | exact H
                            have Ny286 := Aside0.mk hy286
                            clear hy286
                            have H' := Aside0.mk H
                            clear H
                            obtain ⟨Ao23, co23, eo23⟩ := Kd.R_slice HO_10.out
                            subst eo23
                            go_wp2_with (first | ((with_reducible refine gate_builtin (b := .append) (xs := #[.tmp 65, .tmp 67]) rfl ?_); at_builtin; refine Kd.S_append (Kd.slice 3 (Kd.int .i64)) (w0 := w) w.heap.size rfl (.tmp 65) (.tmp 67) 36 22 (.slice none 0 0) 24 rfl Try.underlying36 info22 rfl (by decide) (by omega) u7 x7_3 x10_4 [.slice Ao23 x10_4.length co23] (fun _ => True) (fun k_ => some k_ = (.slice Ao23 x10_4.length co23 : Value).ownBlock) rfl rfl ?aP (fun k_ hk_ => ((Kd.R_mono (ok' := fun k_ => ((fun _ => True)) k_ ∧ some k_ ≠ (u7 : Value).ownBlock) (Kd.R_apart' (HO_10.out) (Kd.S_typed HO_7.out) (by decide)) (fun k_ hk => ⟨trivial, hk.2⟩))).1 k_ hk_.symm) ?aF ?aO ?aB ?aS ?aL ?_; (case aP => exact Kd.M_row (Kd.R_mono (Kd.R_tight rfl (Kd.R_mono (ok' := fun k_ => ((fun _ => True)) k_ ∧ some k_ ≠ (u7 : Value).ownBlock) (Kd.R_apart' (HO_10.out) (Kd.S_typed HO_7.out) (by decide)) (fun k_ hk => ⟨trivial, hk.2⟩))) (fun _ h_ => h_))); (case aB => exact (by repeat (first | (with_reducible first | exact HB.out | apply below_alloc | apply pw_below_drewN | apply below_drew1) | exact HB.out))); (case aF => exact (fun _ _ => trivial)); (case aO => exact (by (with_reducible repeat (first | apply Kd.S_alloc | apply Kd.S_drewN | apply Kd.S_drew)); exact Kd.S_mono HO_7.out (fun k_ hk => ⟨trivial, fun e_ => hk e_⟩))); (case aS => exact (below_size (by repeat (first | (with_reducible first | exact HB.out | apply below_alloc | apply pw_below_drewN | apply below_drew1) | exact HB.out)))); (case aL => have := LMc21.out; omega); intro v287 w22 ho hb hg hat; rw [← Ny286.out] at ho; have n0_ := Aside0.mk (hb); have n1_ := Aside0.mk (ho); clear HB; clear HO_7; clear HO_10; have HB := n0_; have HO288 := n1_; clear n0_ n1_; clear ho hb hg hat))
                            go_roundg k4
                            case measure => have := HJ3.out; have := HK2.out; have := HK3.out; have := HK4.out; omega
                            case rel => exact ⟨(y286), (wrap64 (x9_3 + 1)), (by first | rfl | (simp; done) | (simp [*]; done)), H', ⟨by have := HJ3.out; have := HK2.out; have := HK3.out; have := HK4.out; omega⟩, ⟨by (with_reducible repeat (first | apply Kd.S_alloc | apply Kd.S_drewN | apply Kd.S_drew)); exact HO288.out⟩, ⟨by repeat (first | (with_reducible first | exact HB.out | apply below_alloc | apply pw_below_drewN | apply below_drew1) | exact HB.out)⟩⟩
                          · rw [if_neg c21] at H
                            exact absurd H (by simp)
                  · rw [if_neg c12] at H
                    have c12b0 : decide (x9_3 < (wrap64 (Int.tdiv a1 8))) = false := decide_eq_false c12
                    clear c12
                    have H' := Aside0.mk H
                    clear H
                    go_wp2
                    go_roundg k3
                    case measure => have := HJ3.out; have := HK2.out; have := HK3.out; omega
                    case rel => exact ⟨(x7_3), (wrap64 (x8_2 + 1)), (by first | rfl | (simp; done) | (simp [*]; done)), H', ⟨by have := HJ3.out; have := HK2.out; have := HK3.out; omega⟩, ⟨by (with_reducible repeat (first | apply Kd.S_alloc | apply Kd.S_drewN | apply Kd.S_drew)); exact HO_7.out⟩, ⟨by repeat (first | (with_reducible first | exact HB.out | apply below_alloc | apply pw_below_drewN | apply below_drew1) | exact HB.out)⟩⟩
            · rw [if_neg c11] at H
              have c11b0 : decide (x8_2 < (wrap64 (Int.tdiv a2 8))) = false := decide_eq_false c11
              clear c11
              obtain rfl := Option.some.inj H
              go_wp2
              go_ret
              exact ⟨_, by first | rfl | (simp [errW_none, errW_some] <;> rfl) | (simp [*, errW_none, errW_some] <;> rfl), by (with_reducible repeat (first | apply Kd.S_alloc | apply Kd.S_drewN | apply Kd.S_drew)); exact HO_7.out, by repeat (first | (with_reducible first | exact HB.out | apply below_alloc | apply pw_below_drewN | apply below_drew1) | exact HB.out)⟩

/-- a block, sample by sample -/
def blkM (l : List Int) (w : Int) (by_ bx n : Nat) : List Int := (List.range n).map fun i => cutG l w by_ bx (i / 8) (i % 8)
theorem blkM_succ (l : List Int) (w : Int) (by_ bx n : Nat) : blkM l w by_ bx (n + 1) = blkM l w by_ bx n ++ [cutG l w by_ bx (n / 8) (n % 8)] := by simp [blkM, List.range_succ]
theorem blkM_64 (l : List Int) (w : Int) (by_ bx : Nat) : blkM l w by_ bx 64 = planeM 8 8 (cutG l w by_ bx) := rfl
theorem cut_idx (wd h : Int) (by_ bx i : Nat) (s1 : 1 ≤ wd) (s2 : wd ≤ 1024) (s4 : h ≤ 1024) (hby : 8 * (by_ : Int) + 8 ≤ h) (hbx : 8 * (bx : Int) + 8 ≤ wd) (hi : i < 64) :
    wrap64 ((wrap64 ((wrap64 ((wrap64 ((wrap64 (8 * (by_ : Int))) + (wrap64 (Int.tdiv (i : Int) 8)))) * wd)) + (wrap64 (8 * (bx : Int))))) + (Int.tmod (i : Int) 8)) = (8 * (by_ : Int) + ((i / 8 : Nat) : Int)) * wd + 8 * (bx : Int) + ((i % 8 : Nat) : Int) ∧
    0 ≤ (8 * (by_ : Int) + ((i / 8 : Nat) : Int)) * wd + 8 * (bx : Int) + ((i % 8 : Nat) : Int) ∧ (8 * (by_ : Int) + ((i / 8 : Nat) : Int)) * wd + 8 * (bx : Int) + ((i % 8 : Nat) : Int) < wd * h := by
  rw [show Int.tdiv (i : Int) 8 = ((i / 8 : Nat) : Int) from rfl, show Int.tmod (i : Int) 8 = ((i % 8 : Nat) : Int) from rfl]
  obtain ⟨u, hu⟩ : ∃ u : Int, u = ((i / 8 : Nat) : Int) := ⟨_, rfl⟩
  obtain ⟨v, hv⟩ : ∃ v : Int, v = ((i % 8 : Nat) : Int) := ⟨_, rfl⟩
  rw [← hu, ← hv]
  have u0 : 0 ≤ u ∧ u < 8 := by omega
  have v0 : 0 ≤ v ∧ v < 8 := by omega
  clear hu hv
  obtain ⟨r, hr⟩ : ∃ r : Int, r = 8 * (by_ : Int) + u := ⟨_, rfl⟩
  have e1 : (r + 1) * wd ≤ h * wd := Int.mul_le_mul_of_nonneg_right (by omega) (by omega)
  rw [Int.add_mul, Int.one_mul, Int.mul_comm h wd] at e1
  have e0 : 0 ≤ r * wd := Int.mul_nonneg (by omega) (by omega)
  have e2 : wd * h ≤ 1024 * 1024 := Int.mul_le_mul s2 s4 (by omega) (by omega)
  rw [wrap_in (8 * (by_ : Int)) (by omega) (by omega), wrap_in u (by omega) (by omega), ← hr, wrap_in r (by omega) (by omega)]
  generalize r * wd = p at e0 e1 ⊢
  generalize wd * h = q at e1 e2 ⊢
  rw [wrap_in p (by omega) (by omega), wrap_in (8 * (bx : Int)) (by omega) (by omega), wrap_in (p + 8 * (bx : Int)) (by omega) (by omega), wrap_in (p + 8 * (bx : Int) + v) (by omega) (by omega)]
  omega
theorem spec_CutBlocks.l2_ev (l : List Int) (wd h : Int) (s1 : 1 ≤ wd) (s2 : wd ≤ 1024) (s4 : h ≤ 1024) (hl : (l.length : Int) = wd * h) (by_ bx : Nat) (hby : 8 * (by_ : Int) + 8 ≤ h) (hbx : 8 * (bx : Int) + 8 ≤ wd) (out : List (List Int)) (ho : out.length ≤ 1000000) (r : List (List Int))
    (hr : Ev (fun k => spec_CutBlocks.l1 k l wd h (out ++ [planeM 8 8 (cutG l wd by_ bx)]) (by_ : Int) ((bx + 1 : Nat) : Int)) r) :
    ∀ (d i : Nat), i + d = 64 → Ev (fun k => spec_CutBlocks.l2 k l wd h out (by_ : Int) (bx : Int) (blkM l wd by_ bx i) (i : Int)) r := by
  intro d
  induction d with
  | zero =>
    intro i hi
    obtain rfl : i = 64 := by omega
    refine Ev.step (fun _ => by rw [spec_CutBlocks.l2]) (Ev.ng (by omega) (Ev.ip (by omega) ?_))
    rw [wrap_succ bx (by omega), blkM_64]
    exact hr
  | succ d ih =>
    intro i hi
    obtain ⟨e, e0, e1⟩ := cut_idx wd h by_ bx i s1 s2 s4 hby hbx (by omega)
    refine Ev.step (fun _ => by rw [spec_CutBlocks.l2]) (Ev.ip (by omega) ?_)
    rw [e]
    refine Ev.ip e0 (Ev.ip (by rw [hl]; exact e1) (Ev.ip (by simp [blkM]; omega) ?_))
    rw [wrap_succ i (by omega)]
    have := ih (i + 1) (by omega)
    rw [blkM_succ] at this
    exact this
theorem spec_CutBlocks.l1_ev (l : List Int) (n m : Nat) (hn : n ≤ 128) (hm : m ≤ 128) (hn1 : 1 ≤ n) (hl : (l.length : Int) = (8 * (n : Int)) * (8 * (m : Int))) (y : Nat) (hy : y < m) (r : List (List Int))
    (hr : Ev (fun k => spec_CutBlocks.l0 k l (8 * (n : Int)) (8 * (m : Int)) (cutM l (8 * (n : Int)) n (y + 1)) ((y + 1 : Nat) : Int)) r) :
    ∀ (d x : Nat), x + d = n → Ev (fun k => spec_CutBlocks.l1 k l (8 * (n : Int)) (8 * (m : Int)) (cutM l (8 * (n : Int)) n y ++ cutRow l (8 * (n : Int)) x y) (y : Int) (x : Int)) r := by
  have hq : Int.tdiv (8 * (n : Int)) 8 = (n : Int) := by rw [Int.tdiv_eq_ediv_of_nonneg (by omega)]; omega
  intro d
  induction d with
  | zero =>
    intro x hx
    obtain rfl : x = n := by omega
    refine Ev.step (fun _ => by rw [spec_CutBlocks.l1]) ?_
    rw [hq, wrap_in (x : Int) (by omega) (by omega)]
    refine Ev.ng (by omega) ?_
    rw [wrap_succ y (by omega), ← cutM_succ]
    exact hr
  | succ d ih =>
    intro x hx
    have hlen : (cutM l (8 * (n : Int)) n y ++ cutRow l (8 * (n : Int)) x y).length ≤ 1000000 := by
      have : y * n ≤ 128 * 128 := Nat.mul_le_mul (by omega) hn
      rw [List.length_append, cutM_len, cutRow_len]; omega
    have h3 := ih (x + 1) (by omega)
    rw [cutRow_succ, ← List.append_assoc] at h3
    refine Ev.step (fun _ => by rw [spec_CutBlocks.l1]) ?_
    rw [hq, wrap_in (n : Int) (by omega) (by omega)]
    refine Ev.ip (by omega) ?_
    exact spec_CutBlocks.l2_ev l (8 * (n : Int)) (8 * (m : Int)) (by omega) (by omega) (by omega) hl y x (by omega) (by omega) _ hlen r h3 64 0 rfl
theorem spec_CutBlocks.l0_ev (l : List Int) (n m : Nat) (hn : n ≤ 128) (hm : m ≤ 128) (hn1 : 1 ≤ n) (hl : (l.length : Int) = (8 * (n : Int)) * (8 * (m : Int))) :
    ∀ (d y : Nat), y + d = m → Ev (fun k => spec_CutBlocks.l0 k l (8 * (n : Int)) (8 * (m : Int)) (cutM l (8 * (n : Int)) n y) (y : Int)) (cutM l (8 * (n : Int)) n m) := by
  have hq : Int.tdiv (8 * (m : Int)) 8 = (m : Int) := by rw [Int.tdiv_eq_ediv_of_nonneg (by omega)]; omega
  intro d
  induction d with
  | zero =>
    intro y hy
    obtain rfl : y = m := by omega
    refine Ev.step (fun _ => by rw [spec_CutBlocks.l0]) ?_
    rw [hq, wrap_in (y : Int) (by omega) (by omega)]
    exact Ev.ng (by omega) (Ev.now _)
  | succ d ih =>
    intro y hy
    refine Ev.step (fun _ => by rw [spec_CutBlocks.l0]) ?_
    rw [hq, wrap_in (m : Int) (by omega) (by omega)]
    refine Ev.ip (by omega) ?_
    have := spec_CutBlocks.l1_ev l n m hn hm hn1 hl y (by omega) _ (ih (y + 1) (by omega)) n 0 (Nat.zero_add _)
    rw [show cutRow l (8 * (n : Int)) 0 y = [] from rfl, List.append_nil] at this
    exact this
theorem spec_CutBlocks.ev (l : List Int) (w h : Int) : Ev (fun k => spec_CutBlocks.f k l w h) (if cutOk l w h then cutM l w (w / 8).toNat (h / 8).toNat else []) := by
  unfold spec_CutBlocks.f
  refine Ev.bind (Ev.now _) (Ev.bind (spec_PlaneOk.ev l w h) ?_)
  by_cases hp : planeOk l w h = true
  · obtain ⟨p1, p2, p3⟩ := plane_of hp
    obtain ⟨s1, s2, s3, s4, s5⟩ := sides_of p1
    rw [Int.tmod_eq_emod_of_nonneg (show 0 ≤ w by omega), Int.tmod_eq_emod_of_nonneg (show 0 ≤ h by omega)]
    refine Ev.ip hp ?_
    by_cases h1 : w % 8 = 0
    · refine Ev.ip h1 ?_
      by_cases h2 : h % 8 = 0
      · have hok : cutOk l w h = true := by unfold cutOk; rw [hp, decide_eq_true h1, decide_eq_true h2]; rfl
        rw [if_pos hok, h2]
        refine Ev.step (fun _ => by rw [spec_CutBlocks.j0]) (Ev.ng (by simp) ?_)
        obtain ⟨n, hn⟩ : ∃ n : Nat, w = 8 * (n : Int) := ⟨(w / 8).toNat, by omega⟩
        obtain ⟨m, hm⟩ : ∃ m : Nat, h = 8 * (m : Int) := ⟨(h / 8).toNat, by omega⟩
        rw [show (w / 8).toNat = n by omega, show (h / 8).toNat = m by omega]
        subst hn hm
        exact spec_CutBlocks.l0_ev l n m (by omega) (by omega) (by omega) p2 m 0 (Nat.zero_add _)
      · rw [if_neg (by unfold cutOk; rw [decide_eq_false h2]; simp), show (h % 8 != 0) = true from bne_iff_ne.2 h2]
        exact Ev.step (fun _ => by rw [spec_CutBlocks.j0]) (Ev.ip rfl (Ev.now _))
    · rw [if_neg (by unfold cutOk; rw [decide_eq_false h1]; simp)]
      exact Ev.ng h1 (Ev.step (fun _ => by rw [spec_CutBlocks.j0]) (Ev.ip rfl (Ev.now _)))
  · rw [if_neg (by unfold cutOk; rw [Bool.eq_false_iff.2 hp]; simp)]
    exact Ev.ng hp (Ev.step (fun _ => by rw [spec_CutBlocks.j0]) (Ev.ip rfl (Ev.now _)))

end Go.Proofs.Ytcjjmfpkhhdmlaa.G
