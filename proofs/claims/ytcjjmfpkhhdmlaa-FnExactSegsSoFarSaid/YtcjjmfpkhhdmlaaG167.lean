-- Written by gp.py (a program of this session's, over the kit's print). Not trusted: Lean checks it.
import Derived.Test.YtcjjmfpkhhdmlaaG0h
import Derived.Test.YtcjjmfpkhhdmlaaGLib
import Derived.Test.YtcjjmfpkhhdmlaaGSegs
namespace Go.Proofs.Ytcjjmfpkhhdmlaa.G
open Go.RowKit Go.Proofs.YtcjjmfpkhhdmlaaW.PrintWords Go.Proofs.YtcjjmfpkhhdmlaaW.PrintLast Go.Proofs.YtcjjmfpkhhdmlaaW.PrintMore
attribute [local go_sem] max2_int min2_int max_two min_two max_three min_three max_four min_four   -- for this text's walks alone
set_option linter.unusedVariables false
set_option linter.unusedSimpArgs false

/-! ### impl_Unstuff: function 167 -/
mutual
def impl_Unstuff.l0 : Nat → List Int → List Int → Int → Option (List Int × Int)
  | 0, _, _, _ => none
  | k + 1, x0, x4, x5 => if x5 < (x0.length : Int) then (if 0 ≤ x5 then (if (rd x0 x5) = 255 then (if (wrap64 (x5 + 1)) = (x0.length : Int) then (impl_Unstuff.j1 k x0 x4 x5 true) else (if 0 ≤ (wrap64 (x5 + 1)) then (if (wrap64 (x5 + 1)) < (x0.length : Int) then (impl_Unstuff.j1 k x0 x4 x5 ((rd x0 (wrap64 (x5 + 1))) != 0)) else (none)) else (none))) else (impl_Unstuff.j1 k x0 x4 x5 false)) else (none)) else (some (x4, (x0.length : Int)))
def impl_Unstuff.j1 : Nat → List Int → List Int → Int → Bool → Option (List Int × Int)
  | 0, _, _, _, _ => none
  | k + 1, x0, x4, x5, x32 => if x32 = true then (some (x4, x5)) else (if 0 ≤ x5 then (if x5 < (x0.length : Int) then (if x4.length < 140737488355328 then ((some (x4 ++ [rd x0 x5] : List Int)).bind fun y1001 => (if (rd x0 x5) = 255 then (impl_Unstuff.l0 k x0 y1001 (wrap64 ((wrap64 (x5 + 1)) + 1))) else (impl_Unstuff.l0 k x0 y1001 (wrap64 (x5 + 1))))) else (none)) else (none)) else (none))
end
def impl_Unstuff.f (k : Nat) (l0 : List Int) : Option (List Int × Int) := impl_Unstuff.l0 k l0 (([] : List Int)) 0
theorem impl_Unstuff.mono_l : ∀ k, (∀ y0 y1 y2, LeO (impl_Unstuff.l0 k y0 y1 y2) (impl_Unstuff.l0 (k + 1) y0 y1 y2)) ∧ (∀ y0 y1 y2 y3, LeO (impl_Unstuff.j1 k y0 y1 y2 y3) (impl_Unstuff.j1 (k + 1) y0 y1 y2 y3))
  | 0 => ⟨fun _ _ _ r h => by simp [impl_Unstuff.l0] at h, fun _ _ _ _ r h => by simp [impl_Unstuff.j1] at h⟩
  | k + 1 => by
    obtain ⟨ih0, ih1⟩ := impl_Unstuff.mono_l k
    refine ⟨?_, ?_⟩
    · intro y0 y1 y2
      unfold impl_Unstuff.l0
      repeat' first
      | (with_reducible exact ih0 _ _ _)
      | (with_reducible exact ih1 _ _ _ _)
      | (with_reducible exact LeO.refl _)
      | (with_reducible exact LeO.none _)
      | (with_reducible refine LeO.ite ?_ ?_)
      | (with_reducible refine LeO.bind ?_ (fun _ => ?_))
      | exact ih0 _ _ _
      | exact ih1 _ _ _ _
      | exact LeO.none _
      | refine LeO.ite ?_ ?_
      | refine LeO.bind ?_ (fun _ => ?_)
    · intro y0 y1 y2 y3
      unfold impl_Unstuff.j1
      repeat' first
      | (with_reducible exact ih0 _ _ _)
      | (with_reducible exact ih1 _ _ _ _)
      | (with_reducible exact LeO.refl _)
      | (with_reducible exact LeO.none _)
      | (with_reducible refine LeO.ite ?_ ?_)
      | (with_reducible refine LeO.bind ?_ (fun _ => ?_))
      | exact ih0 _ _ _
      | exact ih1 _ _ _ _
      | exact LeO.none _
      | refine LeO.ite ?_ ?_
      | refine LeO.bind ?_ (fun _ => ?_)
theorem impl_Unstuff.mono : ∀ a0 k, LeO (impl_Unstuff.f k a0) (impl_Unstuff.f (k + 1) a0) := by
  intro a0 k
  obtain ⟨ih0, ih1⟩ := impl_Unstuff.mono_l k
  unfold impl_Unstuff.f
  repeat' first
      | (with_reducible exact ih0 _ _ _)
      | (with_reducible exact ih1 _ _ _ _)
      | (with_reducible exact LeO.refl _)
      | (with_reducible exact LeO.none _)
      | (with_reducible refine LeO.ite ?_ ?_)
      | (with_reducible refine LeO.bind ?_ (fun _ => ?_))
      | exact ih0 _ _ _
      | exact ih1 _ _ _ _
      | exact LeO.none _
      | refine LeO.ite ?_ ?_
      | refine LeO.bind ?_ (fun _ => ?_)
set_option maxHeartbeats 8000000 in
set_option maxRecDepth 100000 in
theorem impl_Unstuff.calls (k : Nat) (A0 : Option Addr) (c0 : Nat) (l0 : List Int) (r1 : List Int) (r2 : Int) (w : World) (hr0 : Kd.C (Kd.int .u8) w A0 l0.length l0) (hc0 : l0.length ≤ c0) (h : impl_Unstuff.f k l0 = some (r1, r2)) :
    Calls Try.prog 167 #[.slice A0 l0.length c0] w fun e w' => ∃ v0_ : Value, e = .returned (.tuple #[v0_, .int .i64 r2]) ∧ Kd.R (Kd.int .u8) 5 w' w.heap.size (fun _ => True) v0_ r1 ∧ Below w.heap.size w w' := by
  have HR0 := Aside0.mk hr0
  have HC0 := Aside0.mk hc0
  clear hr0 hc0
  have HB := Aside0.mk (Below.refl w.heap.size w)
  have H : (impl_Unstuff.l0 k l0 (([] : List Int)) 0) = some (r1, r2) := h
  clear h
  obtain ⟨y995, hy995⟩ : ∃ y_ : List Int, y_ = (([] : List Int)) := ⟨_, rfl⟩
  replace H : (impl_Unstuff.l0 k l0 y995 0) = some (r1, r2) := by first | (rw [hy995]; with_reducible exact H) | (have H2_ := (Option.bind_some _ _).symm.trans H; rw [hy995]; with_reducible exact H2_) | (have H2_ := (Option.bind_some _ _).symm.trans H; with_reducible exact H2_) | with_reducible exact H | (rw [hy995]; exact H) | exact H
  have Ny995 := Aside0.mk hy995
  clear hy995
  have H' := Aside0.mk H
  clear H
  go_enter Try.func167, Try.ntmps167
  go_wp2_with (first | ((with_reducible refine gate_dst (N := 6) rfl ?_); (try (refine gate_guard (by rfl) ?_; dsimp only)); refine Kd.R_lit (Kd.int .u8) _ 5 ?hg (N := 6) ?hd (xs := ([] : List Int)) (inner := []) (ok := fun _ => True) (okp := fun _ => True) ?hr ?hp (fun _ hk => hk) trivial (Below.refl _ _) (Nat.le_refl _) (by simp) ?_; (case hd => rfl); (case hg => rfl); (case hr => first | (go_simp; done) | (go_simp; rfl)); (case hp => exact (Reps.none _ _)); intro v996 w2 ho3 hb hg_ hnew_; clear hg_ hnew_; (first | rw [← Ny995.out] at ho3 | (simp only [Int.reduceToNat] at ho3; rw [← Ny995.out] at ho3)); have n0_ := Aside0.mk (Kd.R_lower ho3 (below_size (by repeat (first | (with_reducible first | exact HB.out | apply below_alloc | apply pw_below_drewN | apply below_drew1) | exact HB.out)))); have n1_ := Aside0.mk (below_step (by repeat (first | (with_reducible first | exact HB.out | apply below_alloc | apply pw_below_drewN | apply below_drew1) | exact HB.out)) hb); clear HB; have HO997 := n0_; have HB := n1_; clear n0_ n1_; clear hb ho3))
  go_loopg [4, 5] k (fun kq v4 v5 w' => ∃ (x4_1 : List Int) (x5_1 : Int), v5 = .int .i64 x5_1 ∧ Aside0 (impl_Unstuff.l0 kq l0 x4_1 x5_1 = some (r1, r2)) ∧ Aside0 (kq ≤ k) ∧ Aside0 (Kd.R (Kd.int .u8) 5 w' w.heap.size (fun _ => True) v4 x4_1) ∧ Aside0 (Below w.heap.size w w'))
  case atStart => exact ⟨(y995), (0), (by first | rfl | (simp; done) | (simp [*]; done)), H', ⟨Nat.le_refl _⟩, ⟨by (with_reducible repeat (first | apply Kd.R_alloc | apply Kd.R_drewN | apply Kd.R_drew)); exact HO997.out⟩, ⟨by repeat (first | (with_reducible first | exact HB.out | apply below_alloc | apply pw_below_drewN | apply below_drew1) | exact HB.out)⟩⟩
  case round =>
    clear H'
    try clear c1
    try clear p2
    obtain ⟨x4_1, x5_1, rfl, HA, HK1, HO_4, HB⟩ := hrel
    cases gk with
    | zero => exact absurd HA.out (by simp [impl_Unstuff.l0])
    | succ k1 =>
      have H := HA.out
      clear HA
      simp only [impl_Unstuff.l0] at H
      by_cases c4 : x5_1 < (l0.length : Int)
      · rw [if_pos c4] at H
        have c4b0 : decide (x5_1 < (l0.length : Int)) = true := decide_eq_true c4
        clear c4
        have HC5 := Aside0.mk H
        clear H
        go_upto_region 5 with (fail)
        go_cut [32] (fun v32 wc => ∃ (kq : Nat) (x32_4 : Bool), v32 = .bool x32_4 ∧ Aside0 (impl_Unstuff.j1 kq l0 x4_1 x5_1 x32_4 = some (r1, r2)) ∧ Aside0 (kq ≤ k1) ∧ Aside0 (Kd.R (Kd.int .u8) 5 wc w.heap.size (fun _ => True) u4 x4_1) ∧ Aside0 (Below w.heap.size w wc))
        case first =>
          have H := HC5.out
          clear HC5
          by_cases c6 : 0 ≤ x5_1
          · rw [if_pos c6] at H
            have c6b0 : decide (0 ≤ x5_1) = true := decide_eq_true c6
            clear c6
            (first | rw [c6b0] | (simp only [i64_w, i32_w]; rw [c6b0]) | skip)
            by_cases c7 : (rd l0 x5_1) = 255
            · rw [if_pos c7] at H
              have c7b0 : ((rd l0 x5_1) == 255) = true := beq_iff_eq.mpr c7
              have c7b1 : ((rd l0 x5_1) != 255) = false := bne_eq_false_iff_eq.mpr c7
              clear c7
              by_cases c8 : (wrap64 (x5_1 + 1)) = (l0.length : Int)
              · rw [if_pos c8] at H
                have c8b0 : ((wrap64 (x5_1 + 1)) == (l0.length : Int)) = true := beq_iff_eq.mpr c8
                have c8b1 : ((wrap64 (x5_1 + 1)) != (l0.length : Int)) = false := bne_eq_false_iff_eq.mpr c8
                clear c8
                have H' := Aside0.mk H
                clear H
                have p998 : 0 ≤ (x5_1 : Int) := of_decide_eq_true (by first | (with_reducible assumption) | assumption)
                have q998 : x5_1 < (l0.length : Int) := of_decide_eq_true (by first | (with_reducible assumption) | assumption)
                obtain ⟨ad998, e998, hx998_0⟩ := Kd.at_int HR0.out x5_1 p998 q998
                cases e998
                replace hx998_0 := (HB.out.cell (World.block_lt_of_cell? w _ hx998_0)).trans hx998_0
                replace p998 := eq_true p998
                replace q998 := eq_true q998
                go_wp2
                go_meet
                case rel => exact ⟨_, (true), (by first | rfl | (simp; done) | (simp [*]; done)), H', ⟨by have := HK1.out; first | omega | exact Nat.le_refl _⟩, ⟨by (with_reducible repeat (first | apply Kd.R_alloc | apply Kd.R_drewN | apply Kd.R_drew)); exact HO_4.out⟩, ⟨by repeat (first | (with_reducible first | exact HB.out | apply below_alloc | apply pw_below_drewN | apply below_drew1) | exact HB.out)⟩⟩
              · rw [if_neg c8] at H
                have c8b0 : ((wrap64 (x5_1 + 1)) == (l0.length : Int)) = false := beq_eq_false_iff_ne.mpr c8
                have c8b1 : ((wrap64 (x5_1 + 1)) != (l0.length : Int)) = true := bne_iff_ne.mpr c8
                obtain ⟨ji9, hji9⟩ : ∃ j_ : Int, (wrap64 (x5_1 + 1)) = j_ := ⟨_, rfl⟩
                replace H : (if 0 ≤ (ji9) then (if (ji9) < (l0.length : Int) then (impl_Unstuff.j1 k1 l0 x4_1 x5_1 ((rd l0 (ji9)) != 0)) else (none)) else (none)) = some (r1, r2) := by first | (rw [hji9] at H; exact H) | (simp only [hji9] at H ⊢; exact H)
                (try rw [hji9] at c8b0)
                (try rw [hji9] at c8b1)
                have hji9w : (IntKind.i64.wrap (x5_1 + 1)) = ji9 := (i64_w _).trans hji9
                by_cases c10 : 0 ≤ (ji9)
                · rw [if_pos c10] at H
                  have c10b0 : decide (0 ≤ (ji9)) = true := decide_eq_true c10
                  clear c10
                  by_cases c11 : (ji9) < (l0.length : Int)
                  · rw [if_pos c11] at H
                    have c11b0 : decide ((ji9) < (l0.length : Int)) = true := decide_eq_true c11
                    clear c11
                    have H' := Aside0.mk H
                    clear H
                    have p998 : 0 ≤ (x5_1 : Int) := of_decide_eq_true (by first | (with_reducible assumption) | assumption)
                    have q998 : x5_1 < (l0.length : Int) := of_decide_eq_true (by first | (with_reducible assumption) | assumption)
                    obtain ⟨ad998, e998, hx998_0⟩ := Kd.at_int HR0.out x5_1 p998 q998
                    cases e998
                    replace hx998_0 := (HB.out.cell (World.block_lt_of_cell? w _ hx998_0)).trans hx998_0
                    replace p998 := eq_true p998
                    replace q998 := eq_true q998
                    have p999 : 0 ≤ ((ji9) : Int) := of_decide_eq_true (by first | (with_reducible assumption) | assumption)
                    have q999 : (ji9) < (l0.length : Int) := of_decide_eq_true (by first | (with_reducible assumption) | assumption)
                    obtain ⟨ad999, e999, hx999_0⟩ := Kd.at_int HR0.out (ji9) p999 q999
                    obtain rfl : ad998 = ad999 := (by injection e999)
                    replace hx999_0 := (HB.out.cell (World.block_lt_of_cell? w _ hx999_0)).trans hx999_0
                    replace p999 := eq_true p999
                    replace q999 := eq_true q999
                    go_wp2
                    go_meet
                    case rel => exact ⟨_, (((rd l0 (ji9)) != 0)), (by first | rfl | (simp; done) | (simp only [← hji9] <;> (first | rfl | simp)) | (simp [*]; done)), H', ⟨by have := HK1.out; first | omega | exact Nat.le_refl _⟩, ⟨by (with_reducible repeat (first | apply Kd.R_alloc | apply Kd.R_drewN | apply Kd.R_drew)); exact HO_4.out⟩, ⟨by repeat (first | (with_reducible first | exact HB.out | apply below_alloc | apply pw_below_drewN | apply below_drew1) | exact HB.out)⟩⟩
                  · rw [if_neg c11] at H
                    exact absurd H (by simp)
                · rw [if_neg c10] at H
                  exact absurd H (by simp)
            · rw [if_neg c7] at H
              have c7b0 : ((rd l0 x5_1) == 255) = false := beq_eq_false_iff_ne.mpr c7
              have c7b1 : ((rd l0 x5_1) != 255) = true := bne_iff_ne.mpr c7
              have H' := Aside0.mk H
              clear H
              have p998 : 0 ≤ (x5_1 : Int) := of_decide_eq_true (by first | (with_reducible assumption) | assumption)
              have q998 : x5_1 < (l0.length : Int) := of_decide_eq_true (by first | (with_reducible assumption) | assumption)
              obtain ⟨ad998, e998, hx998_0⟩ := Kd.at_int HR0.out x5_1 p998 q998
              cases e998
              replace hx998_0 := (HB.out.cell (World.block_lt_of_cell? w _ hx998_0)).trans hx998_0
              replace p998 := eq_true p998
              replace q998 := eq_true q998
              go_wp2
              go_meet
              case rel => exact ⟨_, (false), (by first | rfl | (simp; done) | (simp [*]; done)), H', ⟨by have := HK1.out; first | omega | exact Nat.le_refl _⟩, ⟨by (with_reducible repeat (first | apply Kd.R_alloc | apply Kd.R_drewN | apply Kd.R_drew)); exact HO_4.out⟩, ⟨by repeat (first | (with_reducible first | exact HB.out | apply below_alloc | apply pw_below_drewN | apply below_drew1) | exact HB.out)⟩⟩
          · rw [if_neg c6] at H
            exact absurd H (by simp)
        case rest =>
          clear HC5
          try clear c1
          try clear p2
          try clear c4
          try clear c4b0
          try clear c6
          try clear c6b0
          try clear p6
          try clear c7
          try clear c7b0
          try clear c7b1
          try clear c8
          try clear c8b0
          try clear c8b1
          try clear p9
          try clear q9
          try clear hx9
          try clear c10
          try clear c10b0
          try clear c11
          try clear c11b0
          try clear hx998_0
          try clear hx999_0
          try clear p2
          try clear p998
          try clear p999
          try clear q998
          try clear q999
          obtain ⟨kq, x32_4, rfl, HA, HJ4, HO_4, HB⟩ := hcut
          cases kq with
          | zero => exact absurd HA.out (by simp [impl_Unstuff.j1])
          | succ kj4 =>
            have H := HA.out
            clear HA
            simp only [impl_Unstuff.j1] at H
            by_cases c12 : x32_4 = true
            · subst c12
              have H1 : (some (x4_1, x5_1)) = some (r1, r2) := by rw [if_pos rfl] at H; exact H
              clear H
              have H := H1
              clear H1
              simp only [Option.some.injEq, Prod.mk.injEq] at H
              obtain ⟨rfl, rfl⟩ := H
              go_wp2
              go_ret2
              exact ⟨_, by first | rfl | (simp [errW_none, errW_some] <;> rfl) | (simp [*, errW_none, errW_some] <;> rfl), by (with_reducible repeat (first | apply Kd.R_alloc | apply Kd.R_drewN | apply Kd.R_drew)); exact HO_4.out, by repeat (first | (with_reducible first | exact HB.out | apply below_alloc | apply pw_below_drewN | apply below_drew1) | exact HB.out)⟩
            · replace c12 := Bool.eq_false_iff.mpr c12
              subst c12
              have H1 : (if 0 ≤ x5_1 then (if x5_1 < (l0.length : Int) then (if x4_1.length < 140737488355328 then ((some (x4_1 ++ [rd l0 x5_1] : List Int)).bind fun y1001 => (if (rd l0 x5_1) = 255 then (impl_Unstuff.l0 kj4 l0 y1001 (wrap64 ((wrap64 (x5_1 + 1)) + 1))) else (impl_Unstuff.l0 kj4 l0 y1001 (wrap64 (x5_1 + 1))))) else (none)) else (none)) else (none)) = some (r1, r2) := by rw [if_neg (show ¬ (false = true) by decide)] at H; exact H
              clear H
              have H := H1
              clear H1
              by_cases c13 : 0 ≤ x5_1
              · rw [if_pos c13] at H
                have c13b0 : decide (0 ≤ x5_1) = true := decide_eq_true c13
                clear c13
                by_cases c14 : x5_1 < (l0.length : Int)
                · rw [if_pos c14] at H
                  have c14b0 : decide (x5_1 < (l0.length : Int)) = true := decide_eq_true c14
                  clear c14
                  by_cases c15 : x4_1.length < 140737488355328
                  · rw [if_pos c15] at H
                    have LMc15 := Aside0.mk c15
                    clear c15
                    obtain ⟨y1001, hy1001⟩ : ∃ y_ : List Int, y_ = (x4_1 ++ [rd l0 x5_1]) := ⟨_, rfl⟩
                    replace H : (if (rd l0 x5_1) = 255 then (impl_Unstuff.l0 kj4 l0 y1001 (wrap64 ((wrap64 (x5_1 + 1)) + 1))) else (impl_Unstuff.l0 kj4 l0 y1001 (wrap64 (x5_1 + 1)))) = some (r1, r2) := by first | (rw [hy1001]; with_reducible exact H) | (have H2_ := (Option.bind_some _ _).symm.trans H; rw [hy1001]; with_reducible exact H2_) | (have H2_ := (Option.bind_some _ _).symm.trans H; with_reducible exact H2_) | with_reducible exact H | (rw [hy1001]; exact H) | exact H
                    have Ny1001 := Aside0.mk hy1001
                    clear hy1001
                    by_cases c16 : (rd l0 x5_1) = 255
                    · rw [if_pos c16] at H
                      have c16b0 : ((rd l0 x5_1) == 255) = true := beq_iff_eq.mpr c16
                      have c16b1 : ((rd l0 x5_1) != 255) = false := bne_eq_false_iff_eq.mpr c16
                      clear c16
                      have H' := Aside0.mk H
                      clear H
                      have p1000 : 0 ≤ (x5_1 : Int) := of_decide_eq_true (by first | (with_reducible assumption) | assumption)
                      have q1000 : x5_1 < (l0.length : Int) := of_decide_eq_true (by first | (with_reducible assumption) | assumption)
                      obtain ⟨ad1000, e1000, hx1000_0⟩ := Kd.at_int HR0.out x5_1 p1000 q1000
                      cases e1000
                      replace hx1000_0 := (HB.out.cell (World.block_lt_of_cell? w _ hx1000_0)).trans hx1000_0
                      replace p1000 := eq_true p1000
                      replace q1000 := eq_true q1000
                      go_wp2_with (first | ((with_reducible refine gate_builtin (b := .append) (xs := #[.tmp 35, .tmp 40]) rfl ?_); (try (refine gate_guard (by rfl) ?_; dsimp only)); at_builtin; refine Kd.R_append (Kd.int .u8) (w0 := w) w.heap.size rfl (.tmp 35) (.tmp 40) 23 5 (.int .u8 0) 1 rfl Try.underlying23 info5 rfl (by decide) (by omega) u4 x4_1 (rd l0 x5_1) [.int .u8 (rd l0 x5_1)] (fun _ => True) (fun _ => False) rfl rfl ?aP (fun _ hk => hk.elim) ?aF ?aO ?aB ?aS ?aL ?_; (case aP => exact rfl); (case aB => exact (by repeat (first | (with_reducible first | exact HB.out | apply below_alloc | apply pw_below_drewN | apply below_drew1) | exact HB.out))); (case aF => exact (fun _ _ => trivial)); (case aO => exact (by (with_reducible repeat (first | apply Kd.R_alloc | apply Kd.R_drewN | apply Kd.R_drew)); exact HO_4.out)); (case aS => exact (below_size (by repeat (first | (with_reducible first | exact HB.out | apply below_alloc | apply pw_below_drewN | apply below_drew1) | exact HB.out)))); (case aL => have := LMc15.out; omega); intro v1002 w17 ho hb hg hat; rw [← Ny1001.out] at ho; have n0_ := Aside0.mk (hb); have n1_ := Aside0.mk (ho); clear HB; clear HO_4; have HB := n0_; have HO1003 := n1_; clear n0_ n1_; clear ho hb hg hat; have p1004 : 0 ≤ (x5_1 : Int) := of_decide_eq_true (by first | (with_reducible assumption) | assumption); have q1004 : x5_1 < (l0.length : Int) := of_decide_eq_true (by first | (with_reducible assumption) | assumption); obtain ⟨ad1004, e1004, hx1004_0⟩ := Kd.at_int HR0.out x5_1 p1004 q1004; obtain rfl : ad1000 = ad1004 := (by injection e1004); replace hx1004_0 := (HB.out.cell (World.block_lt_of_cell? w _ hx1004_0)).trans hx1004_0; replace p1004 := eq_true p1004; replace q1004 := eq_true q1004))
                      go_roundg kj4
                      case measure => have := HK1.out; have := HJ4.out; omega
                      case rel => exact ⟨(y1001), (wrap64 ((wrap64 (x5_1 + 1)) + 1)), (by first | rfl | (simp; done) | (simp [*]; done)), H', ⟨by have := HK1.out; have := HJ4.out; omega⟩, ⟨by (with_reducible repeat (first | apply Kd.R_alloc | apply Kd.R_drewN | apply Kd.R_drew)); exact HO1003.out⟩, ⟨by repeat (first | (with_reducible first | exact HB.out | apply below_alloc | apply pw_below_drewN | apply below_drew1) | exact HB.out)⟩⟩
                    · rw [if_neg c16] at H
                      have c16b0 : ((rd l0 x5_1) == 255) = false := beq_eq_false_iff_ne.mpr c16
                      have c16b1 : ((rd l0 x5_1) != 255) = true := bne_iff_ne.mpr c16
                      have H' := Aside0.mk H
                      clear H
                      have p1000 : 0 ≤ (x5_1 : Int) := of_decide_eq_true (by first | (with_reducible assumption) | assumption)
                      have q1000 : x5_1 < (l0.length : Int) := of_decide_eq_true (by first | (with_reducible assumption) | assumption)
                      obtain ⟨ad1000, e1000, hx1000_0⟩ := Kd.at_int HR0.out x5_1 p1000 q1000
                      cases e1000
                      replace hx1000_0 := (HB.out.cell (World.block_lt_of_cell? w _ hx1000_0)).trans hx1000_0
                      replace p1000 := eq_true p1000
                      replace q1000 := eq_true q1000
                      go_wp2_with (first | ((with_reducible refine gate_builtin (b := .append) (xs := #[.tmp 35, .tmp 40]) rfl ?_); (try (refine gate_guard (by rfl) ?_; dsimp only)); at_builtin; refine Kd.R_append (Kd.int .u8) (w0 := w) w.heap.size rfl (.tmp 35) (.tmp 40) 23 5 (.int .u8 0) 1 rfl Try.underlying23 info5 rfl (by decide) (by omega) u4 x4_1 (rd l0 x5_1) [.int .u8 (rd l0 x5_1)] (fun _ => True) (fun _ => False) rfl rfl ?aP (fun _ hk => hk.elim) ?aF ?aO ?aB ?aS ?aL ?_; (case aP => exact rfl); (case aB => exact (by repeat (first | (with_reducible first | exact HB.out | apply below_alloc | apply pw_below_drewN | apply below_drew1) | exact HB.out))); (case aF => exact (fun _ _ => trivial)); (case aO => exact (by (with_reducible repeat (first | apply Kd.R_alloc | apply Kd.R_drewN | apply Kd.R_drew)); exact HO_4.out)); (case aS => exact (below_size (by repeat (first | (with_reducible first | exact HB.out | apply below_alloc | apply pw_below_drewN | apply below_drew1) | exact HB.out)))); (case aL => have := LMc15.out; omega); intro v1002 w18 ho hb hg hat; rw [← Ny1001.out] at ho; have n0_ := Aside0.mk (hb); have n1_ := Aside0.mk (ho); clear HB; clear HO_4; have HB := n0_; have HO1003 := n1_; clear n0_ n1_; clear ho hb hg hat; have p1004 : 0 ≤ (x5_1 : Int) := of_decide_eq_true (by first | (with_reducible assumption) | assumption); have q1004 : x5_1 < (l0.length : Int) := of_decide_eq_true (by first | (with_reducible assumption) | assumption); obtain ⟨ad1004, e1004, hx1004_0⟩ := Kd.at_int HR0.out x5_1 p1004 q1004; obtain rfl : ad1000 = ad1004 := (by injection e1004); replace hx1004_0 := (HB.out.cell (World.block_lt_of_cell? w _ hx1004_0)).trans hx1004_0; replace p1004 := eq_true p1004; replace q1004 := eq_true q1004))
                      go_roundg kj4
                      case measure => have := HK1.out; have := HJ4.out; omega
                      case rel => exact ⟨(y1001), (wrap64 (x5_1 + 1)), (by first | rfl | (simp; done) | (simp [*]; done)), H', ⟨by have := HK1.out; have := HJ4.out; omega⟩, ⟨by (with_reducible repeat (first | apply Kd.R_alloc | apply Kd.R_drewN | apply Kd.R_drew)); exact HO1003.out⟩, ⟨by repeat (first | (with_reducible first | exact HB.out | apply below_alloc | apply pw_below_drewN | apply below_drew1) | exact HB.out)⟩⟩
                  · rw [if_neg c15] at H
                    exact absurd H (by simp)
                · rw [if_neg c14] at H
                  exact absurd H (by simp)
              · rw [if_neg c13] at H
                exact absurd H (by simp)
      · rw [if_neg c4] at H
        have c4b0 : decide (x5_1 < (l0.length : Int)) = false := decide_eq_false c4
        clear c4
        simp only [Option.some.injEq, Prod.mk.injEq] at H
        obtain ⟨rfl, rfl⟩ := H
        go_wp2
        go_ret2
        exact ⟨_, by first | rfl | (simp [errW_none, errW_some] <;> rfl) | (simp [*, errW_none, errW_some] <;> rfl), by (with_reducible repeat (first | apply Kd.R_alloc | apply Kd.R_drewN | apply Kd.R_drew)); exact HO_4.out, by repeat (first | (with_reducible first | exact HB.out | apply below_alloc | apply pw_below_drewN | apply below_drew1) | exact HB.out)⟩

theorem un_impl (b : List Int) (hb : b.length ≤ 1048576) : Ev (fun k => impl_Unstuff.f k b) ((un b).1, ((un b).2 : Int)) := by
  unfold impl_Unstuff.f
  have key : ∀ n i : Nat, ∀ out : List Int, b.length - i ≤ n → i ≤ b.length → out.length ≤ i → Ev (fun k => impl_Unstuff.l0 k b out (i : Int)) (out ++ (un (b.drop i)).1, ((i + (un (b.drop i)).2 : Nat) : Int)) := by
    intro n
    induction n with
    | zero =>
      intro i out hn hi ho
      obtain rfl : i = b.length := by omega
      refine Ev.step (fun _ => by rw [impl_Unstuff.l0]) (Ev.ng (by omega) (Ev.eq (Ev.now _) ?_))
      rw [List.drop_length]
      simp [un]
    | succ n ih =>
      intro i out hn hi ho
      by_cases hlt : i < b.length
      · refine Ev.step (fun _ => by rw [impl_Unstuff.l0]) (Ev.ip (by omega) (Ev.ip (by omega) ?_))
        rw [rd_nat b i hlt, wrap_succ i (by omega)]
        by_cases hx : b[i] = 255
        · refine Ev.ip hx ?_
          by_cases he : i + 1 = b.length
          · refine Ev.ip (by omega) (Ev.step (fun _ => by rw [impl_Unstuff.j1]) (Ev.ip rfl (Ev.eq (Ev.now _) ?_)))
            rw [drop_last b i hlt he, hx, un_one]
            simp
          · refine Ev.ng (by omega) (Ev.ip (by omega) (Ev.ip (by omega) ?_))
            rw [rd_nat b (i + 1) (by omega)]
            by_cases hy : b[i + 1] = 0
            · rw [hy]
              refine Ev.step (fun _ => by rw [impl_Unstuff.j1]) (Ev.ng (by decide) (Ev.ip (by omega) (Ev.ip (by omega) (Ev.ip (by omega) (Ev.bind (Ev.c rfl) ?_)))))
              rw [rd_nat b i hlt]
              refine Ev.ip hx ?_
              rw [wrap_succ i (by omega), wrap_succ (i + 1) (by omega)]
              refine Ev.eq (ih (i + 2) (out ++ [b[i]]) (by omega) (by omega) (by simp; omega)) ?_
              rw [drop_two b i (by omega), hx, hy, un_two]
              simp
              omega
            · refine Ev.step (fun _ => by rw [impl_Unstuff.j1]) (Ev.ip (by simp [hy]) (Ev.eq (Ev.now _) ?_))
              rw [drop_two b i (by omega), hx, un_stop _ _ hy]
              simp
        · refine Ev.ng hx (Ev.step (fun _ => by rw [impl_Unstuff.j1]) (Ev.ng (by decide) (Ev.ip (by omega) (Ev.ip (by omega) (Ev.ip (by omega) (Ev.bind (Ev.c rfl) ?_))))))
          rw [rd_nat b i hlt]
          refine Ev.ng hx ?_
          rw [wrap_succ i (by omega)]
          refine Ev.eq (ih (i + 1) (out ++ [b[i]]) (by omega) (by omega) (by simp; omega)) ?_
          rw [List.drop_eq_getElem_cons hlt, un_ne _ _ hx]
          simp
          omega
      · obtain rfl : i = b.length := by omega
        refine Ev.step (fun _ => by rw [impl_Unstuff.l0]) (Ev.ng (by omega) (Ev.eq (Ev.now _) ?_))
        rw [List.drop_length]
        simp [un]
  have := key _ 0 [] (Nat.le_refl _) (by omega) (by simp)
  simpa using this

end Go.Proofs.Ytcjjmfpkhhdmlaa.G
