-- Written by gp.py (a program of this session's, over the kit's print). Not trusted: Lean checks it.
import Derived.Test.YtcjjmfpkhhdmlaaG0h
import Derived.Test.YtcjjmfpkhhdmlaaG131
import Derived.Test.YtcjjmfpkhhdmlaaG132
import Derived.Test.YtcjjmfpkhhdmlaaG59
import Derived.Test.YtcjjmfpkhhdmlaaGLib
import Derived.Test.YtcjjmfpkhhdmlaaGSegs
namespace Go.Proofs.Ytcjjmfpkhhdmlaa.G
open Go.RowKit Go.Proofs.YtcjjmfpkhhdmlaaW.PrintWords Go.Proofs.YtcjjmfpkhhdmlaaW.PrintLast Go.Proofs.YtcjjmfpkhhdmlaaW.PrintMore
attribute [local go_sem] max2_int min2_int max_two min_two max_three min_three max_four min_four   -- for this text's walks alone
set_option linter.unusedVariables false
set_option linter.unusedSimpArgs false

/-! ### spec_SegsSoFar: function 58 -/
mutual
def spec_SegsSoFar.j0 : Nat → List Int → List (S131) → Bool → Option ((List (S131)) × Bool × Int × Int)
  | 0, _, _, _ => none
  | k + 1, x0, x5, x31 => if x31 = true then (some (x5, false, 0, 0)) else (if (x0.length : Int) < 2 then (spec_SegsSoFar.j1 k x0 x5 true) else (if 0 < (x0.length : Int) then (if (rd x0 0) = 84 then (if 1 < (x0.length : Int) then (spec_SegsSoFar.j1 k x0 x5 ((rd x0 1) != 83)) else (none)) else (spec_SegsSoFar.j1 k x0 x5 true)) else (none)))
def spec_SegsSoFar.j1 : Nat → List Int → List (S131) → Bool → Option ((List (S131)) × Bool × Int × Int)
  | 0, _, _, _ => none
  | k + 1, x0, x5, x48 => if x48 = true then (some (x5, false, 2, 0)) else (spec_SegsSoFar.l0 k x0 x5 2 0)
def spec_SegsSoFar.l0 : Nat → List Int → List (S131) → Int → Int → Option ((List (S131)) × Bool × Int × Int)
  | 0, _, _, _, _ => none
  | k + 1, x0, x5, x6, x7 => (spec_l02Next.f k x0 x6 x7 ((x5.length : Int) == 300)).bind fun bt974 => (if bt974.2.2.2.1 = 3 then (some (x5, false, 0, 0)) else (if bt974.2.2.2.1 = 0 then (if bt974.2.2.2.2.2 = true then (spec_SegsSoFar.j3 k x0 x5 bt974.2.2.1 bt974.2.2.2.2.2 (decide (bt974.2.2.1 < (x0.length : Int))) bt974.1 bt974.2.1) else (spec_SegsSoFar.j3 k x0 x5 bt974.2.2.1 bt974.2.2.2.2.2 false bt974.1 bt974.2.1)) else (some (x5, false, bt974.2.2.2.1, bt974.2.2.2.2.1))))
def spec_SegsSoFar.j3 : Nat → List Int → List (S131) → Int → Bool → Bool → Int → List Int → Option ((List (S131)) × Bool × Int × Int)
  | 0, _, _, _, _, _, _, _ => none
  | k + 1, x0, x5, x9, x11, x79, x983000, x983001 => if x79 = true then (some (x5, true, 7, x9)) else (if x11 = true then (some (x5, true, 0, 0)) else (if x983000 = 0 then (if (wrap64 (x9 + 1)) ≥ (x0.length : Int) then (some (x5, false, 0, 0)) else (if x5.length < 4398046511104 then ((spec_l02Kind.f x983000).bind fun t987 => (spec_SegsSoFar.l0 k x0 (x5 ++ [(⟨x983000, x983001⟩ : S131)]) x9 t987)) else (none))) else (if x5.length < 4398046511104 then ((spec_l02Kind.f x983000).bind fun t991 => (spec_SegsSoFar.l0 k x0 (x5 ++ [(⟨x983000, x983001⟩ : S131)]) x9 t991)) else (none))))
end
def spec_SegsSoFar.f (k : Nat) (l0 : List Int) : Option ((List (S131)) × Bool × Int × Int) := (some (([] : List (S131)) : List (S131))).bind fun y968 => (if (l0.length : Int) > 60000 then (some (y968, false, 1, 0)) else (if (l0.length : Int) = 0 then (spec_SegsSoFar.j0 k l0 y968 true) else (if (l0.length : Int) = 1 then (if 0 < (l0.length : Int) then (spec_SegsSoFar.j0 k l0 y968 ((rd l0 0) == 84)) else (none)) else (spec_SegsSoFar.j0 k l0 y968 false))))
theorem spec_SegsSoFar.mono_l : ∀ k, (∀ y0 y1 y2, LeO (spec_SegsSoFar.j0 k y0 y1 y2) (spec_SegsSoFar.j0 (k + 1) y0 y1 y2)) ∧ (∀ y0 y1 y2, LeO (spec_SegsSoFar.j1 k y0 y1 y2) (spec_SegsSoFar.j1 (k + 1) y0 y1 y2)) ∧ (∀ y0 y1 y2 y3, LeO (spec_SegsSoFar.l0 k y0 y1 y2 y3) (spec_SegsSoFar.l0 (k + 1) y0 y1 y2 y3)) ∧ (∀ y0 y1 y2 y3 y4 y5 y6, LeO (spec_SegsSoFar.j3 k y0 y1 y2 y3 y4 y5 y6) (spec_SegsSoFar.j3 (k + 1) y0 y1 y2 y3 y4 y5 y6))
  | 0 => ⟨fun _ _ _ r h => by simp [spec_SegsSoFar.j0] at h, fun _ _ _ r h => by simp [spec_SegsSoFar.j1] at h, fun _ _ _ _ r h => by simp [spec_SegsSoFar.l0] at h, fun _ _ _ _ _ _ _ r h => by simp [spec_SegsSoFar.j3] at h⟩
  | k + 1 => by
    obtain ⟨ih0, ih1, ih2, ih3⟩ := spec_SegsSoFar.mono_l k
    refine ⟨?_, ?_, ?_, ?_⟩
    · intro y0 y1 y2
      unfold spec_SegsSoFar.j0
      repeat' first
      | (with_reducible exact ih0 _ _ _)
      | (with_reducible exact ih1 _ _ _)
      | (with_reducible exact ih2 _ _ _ _)
      | (with_reducible exact ih3 _ _ _ _ _ _ _)
      | (with_reducible exact spec_l02Next.mono _ _ _ _ _)
      | (with_reducible exact LeO.refl _)
      | (with_reducible exact LeO.none _)
      | (with_reducible refine LeO.ite ?_ ?_)
      | (with_reducible refine LeO.bind ?_ (fun _ => ?_))
      | exact ih0 _ _ _
      | exact ih1 _ _ _
      | exact ih2 _ _ _ _
      | exact ih3 _ _ _ _ _ _ _
      | exact spec_l02Next.mono _ _ _ _ _
      | exact LeO.none _
      | refine LeO.ite ?_ ?_
      | refine LeO.bind ?_ (fun _ => ?_)
    · intro y0 y1 y2
      unfold spec_SegsSoFar.j1
      repeat' first
      | (with_reducible exact ih0 _ _ _)
      | (with_reducible exact ih1 _ _ _)
      | (with_reducible exact ih2 _ _ _ _)
      | (with_reducible exact ih3 _ _ _ _ _ _ _)
      | (with_reducible exact spec_l02Next.mono _ _ _ _ _)
      | (with_reducible exact LeO.refl _)
      | (with_reducible exact LeO.none _)
      | (with_reducible refine LeO.ite ?_ ?_)
      | (with_reducible refine LeO.bind ?_ (fun _ => ?_))
      | exact ih0 _ _ _
      | exact ih1 _ _ _
      | exact ih2 _ _ _ _
      | exact ih3 _ _ _ _ _ _ _
      | exact spec_l02Next.mono _ _ _ _ _
      | exact LeO.none _
      | refine LeO.ite ?_ ?_
      | refine LeO.bind ?_ (fun _ => ?_)
    · intro y0 y1 y2 y3
      unfold spec_SegsSoFar.l0
      repeat' first
      | (with_reducible exact ih0 _ _ _)
      | (with_reducible exact ih1 _ _ _)
      | (with_reducible exact ih2 _ _ _ _)
      | (with_reducible exact ih3 _ _ _ _ _ _ _)
      | (with_reducible exact spec_l02Next.mono _ _ _ _ _)
      | (with_reducible exact LeO.refl _)
      | (with_reducible exact LeO.none _)
      | (with_reducible refine LeO.ite ?_ ?_)
      | (with_reducible refine LeO.bind ?_ (fun _ => ?_))
      | exact ih0 _ _ _
      | exact ih1 _ _ _
      | exact ih2 _ _ _ _
      | exact ih3 _ _ _ _ _ _ _
      | exact spec_l02Next.mono _ _ _ _ _
      | exact LeO.none _
      | refine LeO.ite ?_ ?_
      | refine LeO.bind ?_ (fun _ => ?_)
    · intro y0 y1 y2 y3 y4 y5 y6
      unfold spec_SegsSoFar.j3
      repeat' first
      | (with_reducible exact ih0 _ _ _)
      | (with_reducible exact ih1 _ _ _)
      | (with_reducible exact ih2 _ _ _ _)
      | (with_reducible exact ih3 _ _ _ _ _ _ _)
      | (with_reducible exact spec_l02Next.mono _ _ _ _ _)
      | (with_reducible exact LeO.refl _)
      | (with_reducible exact LeO.none _)
      | (with_reducible refine LeO.ite ?_ ?_)
      | (with_reducible refine LeO.bind ?_ (fun _ => ?_))
      | exact ih0 _ _ _
      | exact ih1 _ _ _
      | exact ih2 _ _ _ _
      | exact ih3 _ _ _ _ _ _ _
      | exact spec_l02Next.mono _ _ _ _ _
      | exact LeO.none _
      | refine LeO.ite ?_ ?_
      | refine LeO.bind ?_ (fun _ => ?_)
theorem spec_SegsSoFar.mono : ∀ a0 k, LeO (spec_SegsSoFar.f k a0) (spec_SegsSoFar.f (k + 1) a0) := by
  intro a0 k
  obtain ⟨ih0, ih1, ih2, ih3⟩ := spec_SegsSoFar.mono_l k
  unfold spec_SegsSoFar.f
  repeat' first
      | (with_reducible exact ih0 _ _ _)
      | (with_reducible exact ih1 _ _ _)
      | (with_reducible exact ih2 _ _ _ _)
      | (with_reducible exact ih3 _ _ _ _ _ _ _)
      | (with_reducible exact spec_l02Next.mono _ _ _ _ _)
      | (with_reducible exact LeO.refl _)
      | (with_reducible exact LeO.none _)
      | (with_reducible refine LeO.ite ?_ ?_)
      | (with_reducible refine LeO.bind ?_ (fun _ => ?_))
      | exact ih0 _ _ _
      | exact ih1 _ _ _
      | exact ih2 _ _ _ _
      | exact ih3 _ _ _ _ _ _ _
      | exact spec_l02Next.mono _ _ _ _ _
      | exact LeO.none _
      | refine LeO.ite ?_ ?_
      | refine LeO.bind ?_ (fun _ => ?_)
set_option maxHeartbeats 8000000 in
set_option maxRecDepth 100000 in
theorem spec_SegsSoFar.calls (k : Nat) (A0 : Option Addr) (c0 : Nat) (l0 : List Int) (r1 : List (S131)) (r2 : Bool) (r3 : Int) (r4 : Int) (w : World) (hr0 : Kd.C (Kd.int .u8) w A0 l0.length l0) (hc0 : l0.length ≤ c0) (h : spec_SegsSoFar.f k l0 = some (r1, r2, r3, r4)) :
    Calls Try.prog 58 #[.slice A0 l0.length c0] w fun e w' => ∃ v0_ : Value, e = .returned (.tuple #[v0_, .bool r2, .agg #[.int .i64 r3, .int .i64 r4]]) ∧ Kd.S k131 131 w' w.heap.size (fun _ => True) v0_ r1 ∧ Below w.heap.size w w' := by
  have hu65 := Try.underlying65
  have hu131 := Try.underlying131
  have HR0 := Aside0.mk hr0
  have HC0 := Aside0.mk hc0
  clear hr0 hc0
  have HB := Aside0.mk (Below.refl w.heap.size w)
  have H : ((some (([] : List (S131)) : List (S131))).bind fun y968 => (if (l0.length : Int) > 60000 then (some (y968, false, 1, 0)) else (if (l0.length : Int) = 0 then (spec_SegsSoFar.j0 k l0 y968 true) else (if (l0.length : Int) = 1 then (if 0 < (l0.length : Int) then (spec_SegsSoFar.j0 k l0 y968 ((rd l0 0) == 84)) else (none)) else (spec_SegsSoFar.j0 k l0 y968 false))))) = some (r1, r2, r3, r4) := h
  clear h
  obtain ⟨y968, hy968⟩ : ∃ y_ : List (S131), y_ = (([] : List (S131))) := ⟨_, rfl⟩
  replace H : (if (l0.length : Int) > 60000 then (some (y968, false, 1, 0)) else (if (l0.length : Int) = 0 then (spec_SegsSoFar.j0 k l0 y968 true) else (if (l0.length : Int) = 1 then (if 0 < (l0.length : Int) then (spec_SegsSoFar.j0 k l0 y968 ((rd l0 0) == 84)) else (none)) else (spec_SegsSoFar.j0 k l0 y968 false)))) = some (r1, r2, r3, r4) := by first | (rw [hy968]; with_reducible exact H) | (have H2_ := (Option.bind_some _ _).symm.trans H; rw [hy968]; with_reducible exact H2_) | (have H2_ := (Option.bind_some _ _).symm.trans H; with_reducible exact H2_) | with_reducible exact H | (rw [hy968]; exact H) | exact H
  have Ny968 := Aside0.mk hy968
  clear hy968
  by_cases c2 : (l0.length : Int) > 60000
  · rw [if_pos c2] at H
    have c2b0 : decide (60000 < (l0.length : Int)) = true := decide_eq_true c2
    have c2b1 : decide (60000 < l0.length) = true := decide_eq_true (by omega)
    clear c2
    simp only [Option.some.injEq, Prod.mk.injEq] at H
    obtain ⟨rfl, rfl, rfl, rfl⟩ := H
    go_enter Try.func58, Try.ntmps58
    go_wp2_with (first | ((with_reducible refine gate_dst (N := 4) rfl ?_); (try (refine gate_guard (by rfl) ?_; dsimp only)); refine box_event ?hg (N := 4) ?hd (cs := #[.int .i64 0, .int .i64 0]) (t := 65) ?hr ?_; (case hd => rfl); (case hg => rfl); (case hr => first | (go_simp; done) | (go_simp; rfl)); intro gb967 hg w3 hbox hb; have n0_ := Aside0.mk (below_step (by repeat (first | (with_reducible first | exact HB.out | apply below_alloc | apply pw_below_drewN | apply below_drew1) | exact HB.out)) hb); have n1_ := Aside0.mk (hbox); have n2_ := Aside0.mk ((by rw [hg]; exact (below_size (by repeat (first | (with_reducible first | exact HB.out | apply below_alloc | apply pw_below_drewN | apply below_drew1) | exact HB.out))) : w.heap.size ≤ gb967)); have n3_ := Aside0.mk ((by rw [hg]; exact (below_size (by repeat (first | (with_reducible first | exact HB.out | apply below_alloc | apply pw_below_drewN | apply below_drew1) | exact HB.out))) : w.heap.size ≤ gb967)); clear HB; have HB := n0_; have BK967 := n1_; have GW967 := n2_; have GE967 := n3_; clear n0_ n1_ n2_ n3_; clear hb hbox hg) | ((with_reducible refine gate_dst (N := 12) rfl ?_); (try (refine gate_guard (by rfl) ?_; dsimp only)); refine Kd.S_lit k131 _ 131 ?hg (N := 12) ?hd (xs := ([] : List (S131))) (inner := []) (ok := fun _ => True) (okp := fun _ => True) ?hr ?hp (fun _ hk => hk) trivial (Below.refl _ _) (Nat.le_refl _) (by simp) ?_; (case hd => rfl); (case hg => rfl); (case hr => first | (go_simp; done) | (go_simp; rfl)); (case hp => exact (Reps.none _ _)); intro v969 w4 ho5 hb hg_ hnew_; clear hg_ hnew_; (first | rw [← Ny968.out] at ho5 | (simp only [Int.reduceToNat] at ho5; rw [← Ny968.out] at ho5)); have n0_ := Aside0.mk (Kd.S_lower ho5 (below_size (by repeat (first | (with_reducible first | exact HB.out | apply below_alloc | apply pw_below_drewN | apply below_drew1 | refine below_set ?_ GE967.out) | exact HB.out)))); have n1_ := Aside0.mk (blk_below (g := gb967) (o := .cells #[.int .i64 0, .int .i64 0] 65 (0, 0)) (by (with_reducible repeat (first | refine blk_drewN ?_ _ | refine blk_drew ?_ | refine blk_alloc ?_ _)); exact BK967.out) hb); have n2_ := Aside0.mk (below_step (by repeat (first | (with_reducible first | exact HB.out | apply below_alloc | apply pw_below_drewN | apply below_drew1 | refine below_set ?_ GE967.out) | exact HB.out)) hb); clear BK967; clear HB; have HO970 := n0_; have BK967 := n1_; have HB := n2_; clear n0_ n1_ n2_; clear hb ho5; have hcz6_0 : w4.cell? ⟨gb967, 0, none⟩ = some (.int .i64 0) := (blk_cell BK967.out 0).trans rfl; have hcz6_1 : w4.cell? ⟨gb967, 1, none⟩ = some (.int .i64 0) := (blk_cell BK967.out 1).trans rfl; have hfz6_0 := blk_frozen BK967.out 0; have hfz6_1 := blk_frozen BK967.out 1))
    refine bodyPost_ret (results_list (rs := [.tmp 2, .tmp 3, .cell 4 65]) rfl (by simp) (.tmp (.tmp (.cell gb967 65 #[.int .i64 1, .int .i64 0] (0, 0) _ rfl (by (with_reducible repeat (first | refine blk_drewN ?_ _ | refine blk_drew ?_ | refine blk_alloc ?_ _)); refine blk_put (cs := #[.int .i64 1, .int .i64 0]) ?_ 1 _ rfl; (with_reducible repeat (first | refine blk_drewN ?_ _ | refine blk_drew ?_ | refine blk_alloc ?_ _)); refine blk_put (cs := #[.int .i64 0, .int .i64 0]) ?_ 0 _ rfl; (with_reducible repeat (first | refine blk_drewN ?_ _ | refine blk_drew ?_ | refine blk_alloc ?_ _)); exact BK967.out) Try.underlying65 rfl (by kernel_rfl) .nil)))) rfl ?_
    exact ⟨_, by first | rfl | (simp [errW_none, errW_some] <;> rfl) | (simp [*, errW_none, errW_some] <;> rfl), by (with_reducible repeat (first | apply Kd.S_alloc | apply Kd.S_drewN | apply Kd.S_drew)); exact Kd.S_mono (Kd.S_far (p := ⟨gb967, 1, none⟩) (Kd.S_far (p := ⟨gb967, 0, none⟩) (Kd.S_types HO970.out BK967.out (by decide)) (fun _ hk => hk.2) (.int .i64 1)) (fun _ hk => hk.2) (.int .i64 0)) (fun _ hk => trivial), by repeat (first | (with_reducible first | exact HB.out | apply below_alloc | apply pw_below_drewN | apply below_drew1 | refine below_set ?_ GE967.out) | exact HB.out)⟩
  · rw [if_neg c2] at H
    have c2b0 : decide (60000 < (l0.length : Int)) = false := decide_eq_false c2
    have c2b1 : decide (60000 < l0.length) = false := decide_eq_false (by omega)
    clear c2
    have HC7 := Aside0.mk H
    clear H
    go_enter Try.func58, Try.ntmps58
    go_upto_region 4 with (first | ((with_reducible refine gate_dst (N := 4) rfl ?_); (try (refine gate_guard (by rfl) ?_; dsimp only)); refine box_event ?hg (N := 4) ?hd (cs := #[.int .i64 0, .int .i64 0]) (t := 65) ?hr ?_; (case hd => rfl); (case hg => rfl); (case hr => first | (go_simp; done) | (go_simp; rfl)); intro gb967 hg w8 hbox hb; have n0_ := Aside0.mk (below_step (by repeat (first | (with_reducible first | exact HB.out | apply below_alloc | apply pw_below_drewN | apply below_drew1) | exact HB.out)) hb); have n1_ := Aside0.mk (hbox); have n2_ := Aside0.mk ((by rw [hg]; exact (below_size (by repeat (first | (with_reducible first | exact HB.out | apply below_alloc | apply pw_below_drewN | apply below_drew1) | exact HB.out))) : w.heap.size ≤ gb967)); have n3_ := Aside0.mk ((by rw [hg]; exact (below_size (by repeat (first | (with_reducible first | exact HB.out | apply below_alloc | apply pw_below_drewN | apply below_drew1) | exact HB.out))) : w.heap.size ≤ gb967)); clear HB; have HB := n0_; have BK967 := n1_; have GW967 := n2_; have GE967 := n3_; clear n0_ n1_ n2_ n3_; clear hb hbox hg) | ((with_reducible refine gate_dst (N := 12) rfl ?_); (try (refine gate_guard (by rfl) ?_; dsimp only)); refine Kd.S_lit k131 _ 131 ?hg (N := 12) ?hd (xs := ([] : List (S131))) (inner := []) (ok := fun _ => True) (okp := fun _ => True) ?hr ?hp (fun _ hk => hk) trivial (Below.refl _ _) (Nat.le_refl _) (by simp) ?_; (case hd => rfl); (case hg => rfl); (case hr => first | (go_simp; done) | (go_simp; rfl)); (case hp => exact (Reps.none _ _)); intro v969 w9 ho10 hb hg_ hnew_; clear hg_ hnew_; (first | rw [← Ny968.out] at ho10 | (simp only [Int.reduceToNat] at ho10; rw [← Ny968.out] at ho10)); have n0_ := Aside0.mk (Kd.S_lower ho10 (below_size (by repeat (first | (with_reducible first | exact HB.out | apply below_alloc | apply pw_below_drewN | apply below_drew1 | refine below_set ?_ GE967.out) | exact HB.out)))); have n1_ := Aside0.mk (blk_below (g := gb967) (o := .cells #[.int .i64 0, .int .i64 0] 65 (0, 0)) (by (with_reducible repeat (first | refine blk_drewN ?_ _ | refine blk_drew ?_ | refine blk_alloc ?_ _)); exact BK967.out) hb); have n2_ := Aside0.mk (below_step (by repeat (first | (with_reducible first | exact HB.out | apply below_alloc | apply pw_below_drewN | apply below_drew1 | refine below_set ?_ GE967.out) | exact HB.out)) hb); clear BK967; clear HB; have HO970 := n0_; have BK967 := n1_; have HB := n2_; clear n0_ n1_ n2_; clear hb ho10))
    (try simp only [Act.put, List.setIfInBounds_toArray, List.set_cons_zero, List.set_cons_succ])
    go_cut [31] (fun v31 wc => ∃ (kq : Nat) (x31_6 : Bool), v31 = .bool x31_6 ∧ Aside0 (spec_SegsSoFar.j0 kq l0 y968 x31_6 = some (r1, r2, r3, r4)) ∧ Aside0 (kq ≤ k) ∧ Aside0 (Kd.S k131 131 wc w.heap.size (fun _ => True) v969 y968) ∧ Aside0 (wc.heap[gb967]? = some (.cells #[.int .i64 0, .int .i64 0] 65 (0, 0))) ∧ Aside0 (Below w.heap.size w wc))
    case first =>
      have H := HC7.out
      clear HC7
      by_cases c11 : (l0.length : Int) = 0
      · rw [if_pos c11] at H
        have c11b0 : ((l0.length : Int) == 0) = true := beq_iff_eq.mpr c11
        have c11b1 : ((l0.length : Int) != 0) = false := bne_eq_false_iff_eq.mpr c11
        clear c11
        (first | rw [c11b0] | (simp only [i64_w, i32_w]; rw [c11b0]) | skip)
        have H' := Aside0.mk H
        clear H
        go_wp2
        go_meet
        case rel => exact ⟨_, (true), (by first | rfl | (simp; done) | (simp [*]; done)), H', ⟨by first | omega | exact Nat.le_refl _⟩, ⟨by (with_reducible repeat (first | apply Kd.S_alloc | apply Kd.S_drewN | apply Kd.S_drew)); exact HO970.out⟩, ⟨by (with_reducible repeat (first | refine blk_drewN ?_ _ | refine blk_drew ?_ | refine blk_alloc ?_ _)); exact BK967.out⟩, ⟨by repeat (first | (with_reducible first | exact HB.out | apply below_alloc | apply pw_below_drewN | apply below_drew1 | refine below_set ?_ GE967.out) | exact HB.out)⟩⟩
      · rw [if_neg c11] at H
        have c11b0 : ((l0.length : Int) == 0) = false := beq_eq_false_iff_ne.mpr c11
        have c11b1 : ((l0.length : Int) != 0) = true := bne_iff_ne.mpr c11
        have c11b2 : ¬ (l0 = []) := fun h_ => c11 (by rw [h_]; rfl)
        (first | rw [c11b0] | (simp only [i64_w, i32_w]; rw [c11b0]) | skip)
        by_cases c12 : (l0.length : Int) = 1
        · rw [if_pos c12] at H
          have c12b0 : ((l0.length : Int) == 1) = true := beq_iff_eq.mpr c12
          have c12b1 : ((l0.length : Int) != 1) = false := bne_eq_false_iff_eq.mpr c12
          clear c12
          by_cases c13 : 0 < (l0.length : Int)
          · rw [if_pos c13] at H
            have c13b0 : decide (0 < (l0.length : Int)) = true := decide_eq_true c13
            have c13b1 : decide (0 < l0.length) = true := decide_eq_true (by omega)
            clear c13
            have H' := Aside0.mk H
            clear H
            have p971 : 0 ≤ (0 : Int) := (by omega)
            have q971 : 0 < (l0.length : Int) := of_decide_eq_true (by first | (with_reducible assumption) | assumption)
            obtain ⟨ad971, e971, hx971_0⟩ := Kd.at_int HR0.out 0 p971 q971
            cases e971
            have qi971 : (0 < l0.length) = True := eq_true (by omega)
            (try rw [show ((0 : Int)).toNat = 0 from rfl] at hx971_0)
            (try rw [Addr.add_zero'] at hx971_0)
            replace hx971_0 := (HB.out.cell (World.block_lt_of_cell? w _ hx971_0)).trans hx971_0
            replace p971 := eq_true p971
            replace q971 := eq_true q971
            go_wp2
            go_meet
            case rel => exact ⟨_, (((rd l0 0) == 84)), (by first | rfl | (simp; done) | (simp [*]; done)), H', ⟨by first | omega | exact Nat.le_refl _⟩, ⟨by (with_reducible repeat (first | apply Kd.S_alloc | apply Kd.S_drewN | apply Kd.S_drew)); exact HO970.out⟩, ⟨by (with_reducible repeat (first | refine blk_drewN ?_ _ | refine blk_drew ?_ | refine blk_alloc ?_ _)); exact BK967.out⟩, ⟨by repeat (first | (with_reducible first | exact HB.out | apply below_alloc | apply pw_below_drewN | apply below_drew1 | refine below_set ?_ GE967.out) | exact HB.out)⟩⟩
          · rw [if_neg c13] at H
            exact absurd H (by simp)
        · rw [if_neg c12] at H
          have c12b0 : ((l0.length : Int) == 1) = false := beq_eq_false_iff_ne.mpr c12
          have c12b1 : ((l0.length : Int) != 1) = true := bne_iff_ne.mpr c12
          have H' := Aside0.mk H
          clear H
          go_wp2
          go_meet
          case rel => exact ⟨_, (false), (by first | rfl | (simp; done) | (simp [*]; done)), H', ⟨by first | omega | exact Nat.le_refl _⟩, ⟨by (with_reducible repeat (first | apply Kd.S_alloc | apply Kd.S_drewN | apply Kd.S_drew)); exact HO970.out⟩, ⟨by (with_reducible repeat (first | refine blk_drewN ?_ _ | refine blk_drew ?_ | refine blk_alloc ?_ _)); exact BK967.out⟩, ⟨by repeat (first | (with_reducible first | exact HB.out | apply below_alloc | apply pw_below_drewN | apply below_drew1 | refine below_set ?_ GE967.out) | exact HB.out)⟩⟩
    case rest =>
      clear HC7
      try clear c1
      try clear c2
      try clear c2b0
      try clear c2b1
      try clear p2
      try clear c5
      try clear p9
      try clear q9
      try clear hx9
      try clear qi9
      try clear c11
      try clear c11b0
      try clear c11b1
      try clear c11b2
      try clear c12
      try clear c12b0
      try clear c12b1
      try clear c13
      try clear c13b0
      try clear c13b1
      try clear hcz6_0
      try clear hcz6_1
      try clear hfz6_0
      try clear hfz6_1
      try clear hx971_0
      try clear p971
      try clear q971
      obtain ⟨kq, x31_6, rfl, HA, HJ6, HO_5, BK967, HB⟩ := hcut
      cases kq with
      | zero => exact absurd HA.out (by simp [spec_SegsSoFar.j0])
      | succ kj6 =>
        have H := HA.out
        clear HA
        simp only [spec_SegsSoFar.j0] at H
        by_cases c14 : x31_6 = true
        · subst c14
          have H1 : (some (y968, false, 0, 0)) = some (r1, r2, r3, r4) := by rw [if_pos rfl] at H; exact H
          clear H
          have H := H1
          clear H1
          simp only [Option.some.injEq, Prod.mk.injEq] at H
          obtain ⟨rfl, rfl, rfl, rfl⟩ := H
          have hcz15_0 : wc.cell? ⟨gb967, 0, none⟩ = some (.int .i64 0) := (blk_cell BK967.out 0).trans rfl
          have hcz15_1 : wc.cell? ⟨gb967, 1, none⟩ = some (.int .i64 0) := (blk_cell BK967.out 1).trans rfl
          have hfz15_0 := blk_frozen BK967.out 0
          have hfz15_1 := blk_frozen BK967.out 1
          go_wp2
          refine bodyPost_ret (results_list (rs := [.tmp 2, .tmp 3, .cell 4 65]) rfl (by simp) (.tmp (.tmp (.cell gb967 65 #[.int .i64 0, .int .i64 0] (0, 0) _ rfl (by (with_reducible repeat (first | refine blk_drewN ?_ _ | refine blk_drew ?_ | refine blk_alloc ?_ _)); refine blk_put (cs := #[.int .i64 0, .int .i64 0]) ?_ 1 _ rfl; (with_reducible repeat (first | refine blk_drewN ?_ _ | refine blk_drew ?_ | refine blk_alloc ?_ _)); refine blk_put (cs := #[.int .i64 0, .int .i64 0]) ?_ 0 _ rfl; (with_reducible repeat (first | refine blk_drewN ?_ _ | refine blk_drew ?_ | refine blk_alloc ?_ _)); exact BK967.out) Try.underlying65 rfl (by kernel_rfl) .nil)))) rfl ?_
          exact ⟨_, by first | rfl | (simp [errW_none, errW_some] <;> rfl) | (simp [*, errW_none, errW_some] <;> rfl), by (with_reducible repeat (first | apply Kd.S_alloc | apply Kd.S_drewN | apply Kd.S_drew)); exact Kd.S_mono (Kd.S_far (p := ⟨gb967, 1, none⟩) (Kd.S_far (p := ⟨gb967, 0, none⟩) (Kd.S_types HO_5.out BK967.out (by decide)) (fun _ hk => hk.2) (.int .i64 0)) (fun _ hk => hk.2) (.int .i64 0)) (fun _ hk => trivial), by repeat (first | (with_reducible first | exact HB.out | apply below_alloc | apply pw_below_drewN | apply below_drew1 | refine below_set ?_ GE967.out) | exact HB.out)⟩
        · replace c14 := Bool.eq_false_iff.mpr c14
          subst c14
          have H1 : (if (l0.length : Int) < 2 then (spec_SegsSoFar.j1 kj6 l0 y968 true) else (if 0 < (l0.length : Int) then (if (rd l0 0) = 84 then (if 1 < (l0.length : Int) then (spec_SegsSoFar.j1 kj6 l0 y968 ((rd l0 1) != 83)) else (none)) else (spec_SegsSoFar.j1 kj6 l0 y968 true)) else (none))) = some (r1, r2, r3, r4) := by rw [if_neg (show ¬ (false = true) by decide)] at H; exact H
          clear H
          have H := H1
          clear H1
          have HC16 := Aside0.mk H
          clear H
          go_upto_region 6 with (fail)
          go_cut [48] (fun v48 wc => ∃ (kq : Nat) (x48_15 : Bool), v48 = .bool x48_15 ∧ Aside0 (spec_SegsSoFar.j1 kq l0 y968 x48_15 = some (r1, r2, r3, r4)) ∧ Aside0 (kq ≤ kj6) ∧ Aside0 (Kd.S k131 131 wc w.heap.size (fun _ => True) v969 y968) ∧ Aside0 (wc.heap[gb967]? = some (.cells #[.int .i64 0, .int .i64 0] 65 (0, 0))) ∧ Aside0 (Below w.heap.size w wc))
          case first =>
            have H := HC16.out
            clear HC16
            by_cases c17 : (l0.length : Int) < 2
            · rw [if_pos c17] at H
              have c17b0 : decide ((l0.length : Int) < 2) = true := decide_eq_true c17
              have c17b1 : decide (l0.length < 2) = true := decide_eq_true (by omega)
              clear c17
              (first | rw [c17b0] | (simp only [i64_w, i32_w]; rw [c17b0]) | skip)
              have H' := Aside0.mk H
              clear H
              go_wp2
              go_meet
              case rel => exact ⟨_, (true), (by first | rfl | (simp; done) | (simp [*]; done)), H', ⟨by have := HJ6.out; first | omega | exact Nat.le_refl _⟩, ⟨by (with_reducible repeat (first | apply Kd.S_alloc | apply Kd.S_drewN | apply Kd.S_drew)); exact HO_5.out⟩, ⟨by (with_reducible repeat (first | refine blk_drewN ?_ _ | refine blk_drew ?_ | refine blk_alloc ?_ _)); exact BK967.out⟩, ⟨by repeat (first | (with_reducible first | exact HB.out | apply below_alloc | apply pw_below_drewN | apply below_drew1 | refine below_set ?_ GE967.out) | exact HB.out)⟩⟩
            · rw [if_neg c17] at H
              have c17b0 : decide ((l0.length : Int) < 2) = false := decide_eq_false c17
              have c17b1 : decide (l0.length < 2) = false := decide_eq_false (by omega)
              clear c17
              (first | rw [c17b0] | (simp only [i64_w, i32_w]; rw [c17b0]) | skip)
              by_cases c18 : 0 < (l0.length : Int)
              · rw [if_pos c18] at H
                have c18b0 : decide (0 < (l0.length : Int)) = true := decide_eq_true c18
                have c18b1 : decide (0 < l0.length) = true := decide_eq_true (by omega)
                clear c18
                by_cases c19 : (rd l0 0) = 84
                · rw [if_pos c19] at H
                  have c19b0 : ((rd l0 0) == 84) = true := beq_iff_eq.mpr c19
                  have c19b1 : ((rd l0 0) != 84) = false := bne_eq_false_iff_eq.mpr c19
                  clear c19
                  by_cases c20 : 1 < (l0.length : Int)
                  · rw [if_pos c20] at H
                    have c20b0 : decide (1 < (l0.length : Int)) = true := decide_eq_true c20
                    have c20b1 : decide (1 < l0.length) = true := decide_eq_true (by omega)
                    clear c20
                    have H' := Aside0.mk H
                    clear H
                    have p972 : 0 ≤ (0 : Int) := (by omega)
                    have q972 : 0 < (l0.length : Int) := of_decide_eq_true (by first | (with_reducible assumption) | assumption)
                    obtain ⟨ad972, e972, hx972_0⟩ := Kd.at_int HR0.out 0 p972 q972
                    cases e972
                    have qi972 : (0 < l0.length) = True := eq_true (by omega)
                    (try rw [show ((0 : Int)).toNat = 0 from rfl] at hx972_0)
                    (try rw [Addr.add_zero'] at hx972_0)
                    replace hx972_0 := (HB.out.cell (World.block_lt_of_cell? w _ hx972_0)).trans hx972_0
                    replace p972 := eq_true p972
                    replace q972 := eq_true q972
                    have p973 : 0 ≤ (1 : Int) := (by omega)
                    have q973 : 1 < (l0.length : Int) := of_decide_eq_true (by first | (with_reducible assumption) | assumption)
                    obtain ⟨ad973, e973, hx973_0⟩ := Kd.at_int HR0.out 1 p973 q973
                    obtain rfl : ad972 = ad973 := (by injection e973)
                    (try simp only [show (1 : Int).toNat = 1 from rfl, Nat.reduceMul, Nat.reduceEqDiff, Go.Addr.add, ↓reduceIte] at hx973_0)
                    have qi973 : (1 < l0.length) = True := eq_true (by omega)
                    (try rw [show ((1 : Int)).toNat = 1 from rfl] at hx973_0)
                    replace hx973_0 := (HB.out.cell (World.block_lt_of_cell? w _ hx973_0)).trans hx973_0
                    replace p973 := eq_true p973
                    replace q973 := eq_true q973
                    go_wp2
                    go_meet
                    case rel => exact ⟨_, (((rd l0 1) != 83)), (by first | rfl | (simp; done) | (simp [*]; done)), H', ⟨by have := HJ6.out; first | omega | exact Nat.le_refl _⟩, ⟨by (with_reducible repeat (first | apply Kd.S_alloc | apply Kd.S_drewN | apply Kd.S_drew)); exact HO_5.out⟩, ⟨by (with_reducible repeat (first | refine blk_drewN ?_ _ | refine blk_drew ?_ | refine blk_alloc ?_ _)); exact BK967.out⟩, ⟨by repeat (first | (with_reducible first | exact HB.out | apply below_alloc | apply pw_below_drewN | apply below_drew1 | refine below_set ?_ GE967.out) | exact HB.out)⟩⟩
                  · rw [if_neg c20] at H
                    exact absurd H (by simp)
                · rw [if_neg c19] at H
                  have c19b0 : ((rd l0 0) == 84) = false := beq_eq_false_iff_ne.mpr c19
                  have c19b1 : ((rd l0 0) != 84) = true := bne_iff_ne.mpr c19
                  have H' := Aside0.mk H
                  clear H
                  have p972 : 0 ≤ (0 : Int) := (by omega)
                  have q972 : 0 < (l0.length : Int) := of_decide_eq_true (by first | (with_reducible assumption) | assumption)
                  obtain ⟨ad972, e972, hx972_0⟩ := Kd.at_int HR0.out 0 p972 q972
                  cases e972
                  have qi972 : (0 < l0.length) = True := eq_true (by omega)
                  (try rw [show ((0 : Int)).toNat = 0 from rfl] at hx972_0)
                  (try rw [Addr.add_zero'] at hx972_0)
                  replace hx972_0 := (HB.out.cell (World.block_lt_of_cell? w _ hx972_0)).trans hx972_0
                  replace p972 := eq_true p972
                  replace q972 := eq_true q972
                  go_wp2
                  go_meet
                  case rel => exact ⟨_, (true), (by first | rfl | (simp; done) | (simp [*]; done)), H', ⟨by have := HJ6.out; first | omega | exact Nat.le_refl _⟩, ⟨by (with_reducible repeat (first | apply Kd.S_alloc | apply Kd.S_drewN | apply Kd.S_drew)); exact HO_5.out⟩, ⟨by (with_reducible repeat (first | refine blk_drewN ?_ _ | refine blk_drew ?_ | refine blk_alloc ?_ _)); exact BK967.out⟩, ⟨by repeat (first | (with_reducible first | exact HB.out | apply below_alloc | apply pw_below_drewN | apply below_drew1 | refine below_set ?_ GE967.out) | exact HB.out)⟩⟩
              · rw [if_neg c18] at H
                exact absurd H (by simp)
          case rest =>
            clear HC16
            try clear c1
            try clear c2
            try clear c2b0
            try clear c2b1
            try clear p2
            try clear c5
            try clear p9
            try clear q9
            try clear hx9
            try clear qi9
            try clear c11
            try clear c11b0
            try clear c11b1
            try clear c11b2
            try clear c12
            try clear c12b0
            try clear c12b1
            try clear c13
            try clear c13b0
            try clear c13b1
            try clear c14
            try clear c17
            try clear c17b0
            try clear c17b1
            try clear c18
            try clear c18b0
            try clear c18b1
            try clear c19
            try clear c19b0
            try clear c19b1
            try clear c20
            try clear c20b0
            try clear c20b1
            try clear hcz15_0
            try clear hcz15_1
            try clear hcz6_0
            try clear hcz6_1
            try clear hfz15_0
            try clear hfz15_1
            try clear hfz6_0
            try clear hfz6_1
            try clear hx971_0
            try clear hx972_0
            try clear hx973_0
            try clear p2
            try clear p9
            try clear p971
            try clear p972
            try clear p973
            try clear q9
            try clear q971
            try clear q972
            try clear q973
            obtain ⟨kq, x48_15, rfl, HA, HJ15, HO_5, BK967, HB⟩ := hcut
            cases kq with
            | zero => exact absurd HA.out (by simp [spec_SegsSoFar.j1])
            | succ kj15 =>
              have H := HA.out
              clear HA
              simp only [spec_SegsSoFar.j1] at H
              by_cases c21 : x48_15 = true
              · subst c21
                have H1 : (some (y968, false, 2, 0)) = some (r1, r2, r3, r4) := by rw [if_pos rfl] at H; exact H
                clear H
                have H := H1
                clear H1
                simp only [Option.some.injEq, Prod.mk.injEq] at H
                obtain ⟨rfl, rfl, rfl, rfl⟩ := H
                have hcz22_0 : wc.cell? ⟨gb967, 0, none⟩ = some (.int .i64 0) := (blk_cell BK967.out 0).trans rfl
                have hcz22_1 : wc.cell? ⟨gb967, 1, none⟩ = some (.int .i64 0) := (blk_cell BK967.out 1).trans rfl
                have hfz22_0 := blk_frozen BK967.out 0
                have hfz22_1 := blk_frozen BK967.out 1
                go_wp2
                refine bodyPost_ret (results_list (rs := [.tmp 2, .tmp 3, .cell 4 65]) rfl (by simp) (.tmp (.tmp (.cell gb967 65 #[.int .i64 2, .int .i64 0] (0, 0) _ rfl (by (with_reducible repeat (first | refine blk_drewN ?_ _ | refine blk_drew ?_ | refine blk_alloc ?_ _)); refine blk_put (cs := #[.int .i64 2, .int .i64 0]) ?_ 1 _ rfl; (with_reducible repeat (first | refine blk_drewN ?_ _ | refine blk_drew ?_ | refine blk_alloc ?_ _)); refine blk_put (cs := #[.int .i64 0, .int .i64 0]) ?_ 0 _ rfl; (with_reducible repeat (first | refine blk_drewN ?_ _ | refine blk_drew ?_ | refine blk_alloc ?_ _)); exact BK967.out) Try.underlying65 rfl (by kernel_rfl) .nil)))) rfl ?_
                exact ⟨_, by first | rfl | (simp [errW_none, errW_some] <;> rfl) | (simp [*, errW_none, errW_some] <;> rfl), by (with_reducible repeat (first | apply Kd.S_alloc | apply Kd.S_drewN | apply Kd.S_drew)); exact Kd.S_mono (Kd.S_far (p := ⟨gb967, 1, none⟩) (Kd.S_far (p := ⟨gb967, 0, none⟩) (Kd.S_types HO_5.out BK967.out (by decide)) (fun _ hk => hk.2) (.int .i64 2)) (fun _ hk => hk.2) (.int .i64 0)) (fun _ hk => trivial), by repeat (first | (with_reducible first | exact HB.out | apply below_alloc | apply pw_below_drewN | apply below_drew1 | refine below_set ?_ GE967.out) | exact HB.out)⟩
              · replace c21 := Bool.eq_false_iff.mpr c21
                subst c21
                have H1 : (spec_SegsSoFar.l0 kj15 l0 y968 2 0) = some (r1, r2, r3, r4) := by rw [if_neg (show ¬ (false = true) by decide)] at H; exact H
                clear H
                have H := H1
                clear H1
                have H' := Aside0.mk H
                clear H
                go_wp2
                go_loopg [5, 6, 7] kj15 (fun kq v5 v6 v7 w' => ∃ (x5_3 : List (S131)) (x6_3 : Int) (x7_3 : Int) (x968000_3 : Int) (x968001_3 : Int), v6 = .int .i64 x6_3 ∧ v7 = .int .i64 x7_3 ∧ Aside0 (spec_SegsSoFar.l0 kq l0 x5_3 x6_3 x7_3 = some (r1, r2, r3, r4)) ∧ Aside0 (kq ≤ kj15) ∧ Aside0 (Kd.S k131 131 w' w.heap.size (fun _ => True) v5 x5_3) ∧ Aside0 (w'.heap[gb967]? = some (.cells #[.int .i64 x968000_3, .int .i64 x968001_3] 65 (0, 0))) ∧ Aside0 (Below w.heap.size w w'))
                case atStart => exact ⟨(y968), (2), (0), (0), (0), (by first | rfl | (simp; done) | (simp [*]; done)), (by first | rfl | (simp; done) | (simp [*]; done)), H', ⟨Nat.le_refl _⟩, ⟨by (with_reducible repeat (first | apply Kd.S_alloc | apply Kd.S_drewN | apply Kd.S_drew)); exact HO_5.out⟩, ⟨by (with_reducible repeat (first | refine blk_drewN ?_ _ | refine blk_drew ?_ | refine blk_alloc ?_ _)); exact BK967.out⟩, ⟨by repeat (first | (with_reducible first | exact HB.out | apply below_alloc | apply pw_below_drewN | apply below_drew1 | refine below_set ?_ GE967.out) | exact HB.out)⟩⟩
                case round =>
                  clear H'
                  try clear c1
                  try clear c2
                  try clear c2b0
                  try clear c2b1
                  try clear p2
                  try clear c5
                  try clear p9
                  try clear q9
                  try clear hx9
                  try clear qi9
                  try clear c11
                  try clear c11b0
                  try clear c11b1
                  try clear c11b2
                  try clear c12
                  try clear c12b0
                  try clear c12b1
                  try clear c13
                  try clear c13b0
                  try clear c13b1
                  try clear c14
                  try clear c17
                  try clear c17b0
                  try clear c17b1
                  try clear c18
                  try clear c18b0
                  try clear c18b1
                  try clear c19
                  try clear c19b0
                  try clear c19b1
                  try clear c20
                  try clear c20b0
                  try clear c20b1
                  try clear c21
                  try clear hcz15_0
                  try clear hcz15_1
                  try clear hcz22_0
                  try clear hcz22_1
                  try clear hcz6_0
                  try clear hcz6_1
                  try clear hfz15_0
                  try clear hfz15_1
                  try clear hfz22_0
                  try clear hfz22_1
                  try clear hfz6_0
                  try clear hfz6_1
                  try clear hx971_0
                  try clear hx972_0
                  try clear hx973_0
                  try clear p2
                  try clear p9
                  try clear p971
                  try clear p972
                  try clear p973
                  try clear q9
                  try clear q971
                  try clear q972
                  try clear q973
                  obtain ⟨x5_3, x6_3, x7_3, x968000_3, x968001_3, rfl, rfl, HA, HK3, HO_5, BK967, HB⟩ := hrel
                  cases gk with
                  | zero => exact absurd HA.out (by simp [spec_SegsSoFar.l0])
                  | succ k3 =>
                    have H := HA.out
                    clear HA
                    simp only [spec_SegsSoFar.l0] at H
                    replace H := Option.bind_eq_some_iff.mp H
                    obtain ⟨⟨t974, t975, t978, t979, t980, t981⟩, A230, H⟩ := H
                    replace H : (if t979 = 3 then (some (x5_3, false, 0, 0)) else (if t979 = 0 then (if t981 = true then (spec_SegsSoFar.j3 k3 l0 x5_3 t978 t981 (decide (t978 < (l0.length : Int))) t974 t975) else (spec_SegsSoFar.j3 k3 l0 x5_3 t978 t981 false t974 t975)) else (some (x5_3, false, t979, t980)))) = some (r1, r2, r3, r4) := H
                    have A23 := Aside0.mk A230
                    clear A230
                    by_cases c24 : t979 = 3
                    · rw [if_pos c24] at H
                      have c24b0 : (t979 == 3) = true := beq_iff_eq.mpr c24
                      have c24b1 : (t979 != 3) = false := bne_eq_false_iff_eq.mpr c24
                      clear c24
                      simp only [Option.some.injEq, Prod.mk.injEq] at H
                      obtain ⟨rfl, rfl, rfl, rfl⟩ := H
                      obtain ⟨Ao25, co25, eo25⟩ := Kd.S_slice HO_5.out
                      subst eo25
                      go_wp2_with (first | ((with_reducible refine gate_callee (f := 131) rfl ?_); refine goesL_ (some 58) rfl rfl Try.func131 (by kernel_rfl) rfl #[.slice A0 l0.length c0, .int .i64 x6_3, .int .i64 x7_3, .bool ((x5_3.length : Int) == 300)] rfl (by (try simp only [List.map_toArray, List.map_cons, List.map_nil]); first | done | rfl | (simp only [List.length_drop, List.length_take]; rfl)) ?_; (with_reducible refine (spec_l02Next.calls k3 _ _ l0 x6_3 x7_3 ((x5_3.length : Int) == 300) t974 t975 t978 t979 t980 t981 _ ?side1 ?side2 A23.out).mono ?_); (case side1 => repeat (first | exact (Kd.C_below HR0.out HB.out) | (with_reducible refine Kd.C_alloc ?_ _) | (with_reducible refine Kd.C_drewN ?_ _) | (with_reducible refine Kd.C_drew ?_))); (case side2 => exact HC0.out); rintro e w26 ⟨v976, rfl, ho0, hb⟩; refine ⟨_, rfl, ?_⟩; have n0_ := Aside0.mk (Kd.S_elder' (by (with_reducible repeat (first | apply Kd.S_alloc | apply Kd.S_drewN | apply Kd.S_drew)); exact HO_5.out) (Kd.R_base ho0) hb); have n1_ := Aside0.mk (Kd.R_lower ho0 (below_size (by repeat (first | (with_reducible first | exact HB.out | apply below_alloc | apply pw_below_drewN | apply below_drew1 | refine below_set ?_ GE967.out) | exact HB.out)))); have n2_ := Aside0.mk (blk_below (g := gb967) (o := .cells #[.int .i64 x968000_3, .int .i64 x968001_3] 65 (0, 0)) (by (with_reducible repeat (first | refine blk_drewN ?_ _ | refine blk_drew ?_ | refine blk_alloc ?_ _)); exact BK967.out) hb); have n3_ := Aside0.mk (below_step (by repeat (first | (with_reducible first | exact HB.out | apply below_alloc | apply pw_below_drewN | apply below_drew1 | refine below_set ?_ GE967.out) | exact HB.out)) hb); clear HO_5; clear BK967; clear HB; have HO_5 := n0_; have HO977 := n1_; have BK967 := n2_; have HB := n3_; clear n0_ n1_ n2_ n3_; (try clear hb); (try clear hb2); (try clear hk); (try clear hi); (try clear ho0)) | ((with_reducible refine gate_dst (N := 8) rfl ?_); (try (refine gate_guard (by rfl) ?_; dsimp only)); refine box_event ?hg (N := 8) ?hd (cs := #[.int .i64 0, .slice none 0 0]) (t := 131) ?hr ?_; (case hd => rfl); (case hg => rfl); (case hr => first | (go_simp; done) | (go_simp; rfl)); intro gb982 hg w27 hbox hb; have n0_ := Aside0.mk (Kd.S_below (Kd.S_elderB (by (with_reducible repeat (first | apply Kd.S_alloc | apply Kd.S_drewN | apply Kd.S_drew)); exact HO_5.out) gb982 (Nat.le_of_eq hg.symm)) hb); have n1_ := Aside0.mk (Kd.R_below (by (with_reducible repeat (first | apply Kd.R_alloc | apply Kd.R_drewN | apply Kd.R_drew)); exact HO977.out) hb); have n2_ := Aside0.mk (blk_below (g := gb967) (o := .cells #[.int .i64 x968000_3, .int .i64 x968001_3] 65 (0, 0)) (by (with_reducible repeat (first | refine blk_drewN ?_ _ | refine blk_drew ?_ | refine blk_alloc ?_ _)); exact BK967.out) hb); have n3_ := Aside0.mk (below_step (by repeat (first | (with_reducible first | exact HB.out | apply below_alloc | apply pw_below_drewN | apply below_drew1 | refine below_set ?_ GE967.out) | exact HB.out)) hb); have n4_ := Aside0.mk (hbox); have n5_ := Aside0.mk ((by rw [hg]; exact (below_size (by repeat (first | (with_reducible first | exact HB.out | apply below_alloc | apply pw_below_drewN | apply below_drew1 | refine below_set ?_ GE967.out) | exact HB.out))) : w.heap.size ≤ gb982)); have n6_ := Aside0.mk ((by rw [hg]; exact (below_size (by repeat (first | (with_reducible first | exact HB.out | apply below_alloc | apply pw_below_drewN | apply below_drew1 | refine below_set ?_ GE967.out) | exact HB.out))) : w.heap.size ≤ gb982)); have n7_ := Aside0.mk ((by rw [hg]; exact Nat.ne_of_lt (blk_lt (g := gb967) (o := .cells #[.int .i64 x968000_3, .int .i64 x968001_3] 65 (0, 0)) (by (with_reducible repeat (first | refine blk_drewN ?_ _ | refine blk_drew ?_ | refine blk_alloc ?_ _)); exact BK967.out)) : gb967 ≠ gb982)); have n8_ := Aside0.mk ((by rw [hg]; exact Nat.ne_of_gt (blk_lt (g := gb967) (o := .cells #[.int .i64 x968000_3, .int .i64 x968001_3] 65 (0, 0)) (by (with_reducible repeat (first | refine blk_drewN ?_ _ | refine blk_drew ?_ | refine blk_alloc ?_ _)); exact BK967.out)) : gb982 ≠ gb967)); clear HO_5; clear HO977; clear BK967; clear HB; have HO_5 := n0_; have HO977 := n1_; have BK967 := n2_; have HB := n3_; have BK982 := n4_; have GW982 := n5_; have GE982 := n6_; have NB967_982 := n7_; have NB982_967 := n8_; clear n0_ n1_ n2_ n3_ n4_ n5_ n6_ n7_ n8_; clear hb hbox hg) | ((with_reducible refine gate_dst (N := 10) rfl ?_); (try (refine gate_guard (by rfl) ?_; dsimp only)); refine box_event ?hg (N := 10) ?hd (cs := #[.int .i64 0, .int .i64 0]) (t := 65) ?hr ?_; (case hd => rfl); (case hg => rfl); (case hr => first | (go_simp; done) | (go_simp; rfl)); intro gb983 hg w28 hbox hb; have n0_ := Aside0.mk (Kd.S_below (by (with_reducible repeat (first | apply Kd.S_alloc | apply Kd.S_drewN | apply Kd.S_drew)); exact HO_5.out) hb); have n1_ := Aside0.mk (Kd.R_below (by (with_reducible repeat (first | apply Kd.R_alloc | apply Kd.R_drewN | apply Kd.R_drew)); exact HO977.out) hb); have n2_ := Aside0.mk (blk_below (g := gb967) (o := .cells #[.int .i64 x968000_3, .int .i64 x968001_3] 65 (0, 0)) (by (with_reducible repeat (first | refine blk_drewN ?_ _ | refine blk_drew ?_ | refine blk_alloc ?_ _)); exact BK967.out) hb); have n3_ := Aside0.mk (blk_below (g := gb982) (o := .cells #[.int .i64 0, .slice none 0 0] 131 (0, 0)) (by (with_reducible repeat (first | refine blk_drewN ?_ _ | refine blk_drew ?_ | refine blk_alloc ?_ _)); exact BK982.out) hb); have n4_ := Aside0.mk (below_step (by repeat (first | (with_reducible first | exact HB.out | apply below_alloc | apply pw_below_drewN | apply below_drew1 | refine below_set ?_ GE967.out | refine below_set ?_ GE982.out) | exact HB.out)) hb); have n5_ := Aside0.mk (hbox); have n6_ := Aside0.mk ((by rw [hg]; exact (below_size (by repeat (first | (with_reducible first | exact HB.out | apply below_alloc | apply pw_below_drewN | apply below_drew1 | refine below_set ?_ GE967.out | refine below_set ?_ GE982.out) | exact HB.out))) : w.heap.size ≤ gb983)); have n7_ := Aside0.mk ((by rw [hg]; exact (below_size (by repeat (first | (with_reducible first | exact HB.out | apply below_alloc | apply pw_below_drewN | apply below_drew1 | refine below_set ?_ GE967.out | refine below_set ?_ GE982.out) | exact HB.out))) : w.heap.size ≤ gb983)); have n8_ := Aside0.mk ((by rw [hg]; exact Nat.ne_of_lt (blk_lt (g := gb967) (o := .cells #[.int .i64 x968000_3, .int .i64 x968001_3] 65 (0, 0)) (by (with_reducible repeat (first | refine blk_drewN ?_ _ | refine blk_drew ?_ | refine blk_alloc ?_ _)); exact BK967.out)) : gb967 ≠ gb983)); have n9_ := Aside0.mk ((by rw [hg]; exact Nat.ne_of_gt (blk_lt (g := gb967) (o := .cells #[.int .i64 x968000_3, .int .i64 x968001_3] 65 (0, 0)) (by (with_reducible repeat (first | refine blk_drewN ?_ _ | refine blk_drew ?_ | refine blk_alloc ?_ _)); exact BK967.out)) : gb983 ≠ gb967)); have n10_ := Aside0.mk ((by rw [hg]; exact Nat.ne_of_lt (blk_lt (g := gb982) (o := .cells #[.int .i64 0, .slice none 0 0] 131 (0, 0)) (by (with_reducible repeat (first | refine blk_drewN ?_ _ | refine blk_drew ?_ | refine blk_alloc ?_ _)); exact BK982.out)) : gb982 ≠ gb983)); have n11_ := Aside0.mk ((by rw [hg]; exact Nat.ne_of_gt (blk_lt (g := gb982) (o := .cells #[.int .i64 0, .slice none 0 0] 131 (0, 0)) (by (with_reducible repeat (first | refine blk_drewN ?_ _ | refine blk_drew ?_ | refine blk_alloc ?_ _)); exact BK982.out)) : gb983 ≠ gb982)); clear HO_5; clear HO977; clear BK967; clear BK982; clear HB; have HO_5 := n0_; have HO977 := n1_; have BK967 := n2_; have BK982 := n3_; have HB := n4_; have BK983 := n5_; have GW983 := n6_; have GE983 := n7_; have NB967_983 := n8_; have NB983_967 := n9_; have NB982_983 := n10_; have NB983_982 := n11_; clear n0_ n1_ n2_ n3_ n4_ n5_ n6_ n7_ n8_ n9_ n10_ n11_; clear hb hbox hg; have hnb29 := NB982_967.out; have hnc29 := NB967_982.out; have hnb30 := NB982_983.out; have hnc30 := NB983_982.out; have hcz31_0 : w28.cell? ⟨gb982, 0, none⟩ = some (.int .i64 0) := (blk_cell BK982.out 0).trans rfl; have hcz31_1 : w28.cell? ⟨gb982, 1, none⟩ = some (.slice none 0 0) := (blk_cell BK982.out 1).trans rfl; have hfz31_0 := blk_frozen BK982.out 0; have hfz31_1 := blk_frozen BK982.out 1; obtain ⟨Ao32, co32, eo32⟩ := Kd.R_slice HO977.out; subst eo32; have hnb33 := NB983_967.out; have hnc33 := NB967_983.out; have hcz34_0 : w28.cell? ⟨gb983, 0, none⟩ = some (.int .i64 0) := (blk_cell BK983.out 0).trans rfl; have hcz34_1 : w28.cell? ⟨gb983, 1, none⟩ = some (.int .i64 0) := (blk_cell BK983.out 1).trans rfl; have hfz34_0 := blk_frozen BK983.out 0; have hfz34_1 := blk_frozen BK983.out 1; have hcz35_0 : w28.cell? ⟨gb967, 0, none⟩ = some (.int .i64 x968000_3) := (blk_cell BK967.out 0).trans rfl; have hcz35_1 : w28.cell? ⟨gb967, 1, none⟩ = some (.int .i64 x968001_3) := (blk_cell BK967.out 1).trans rfl; have hfz35_0 := blk_frozen BK967.out 0; have hfz35_1 := blk_frozen BK967.out 1))
                      refine bodyPost_ret (results_list (rs := [.tmp 2, .tmp 3, .cell 4 65]) rfl (by simp) (.tmp (.tmp (.cell gb967 65 #[.int .i64 0, .int .i64 0] (0, 0) _ rfl (by (with_reducible repeat (first | refine blk_drewN ?_ _ | refine blk_drew ?_ | refine blk_alloc ?_ _)); refine blk_put (cs := #[.int .i64 0, .int .i64 x968001_3]) ?_ 1 _ rfl; (with_reducible repeat (first | refine blk_drewN ?_ _ | refine blk_drew ?_ | refine blk_alloc ?_ _)); refine blk_put (cs := #[.int .i64 x968000_3, .int .i64 x968001_3]) ?_ 0 _ rfl; (with_reducible repeat (first | refine blk_drewN ?_ _ | refine blk_drew ?_ | refine blk_alloc ?_ _)); refine blk_far ?_ NB967_983.out _; (with_reducible repeat (first | refine blk_drewN ?_ _ | refine blk_drew ?_ | refine blk_alloc ?_ _)); refine blk_far ?_ NB967_983.out _; (with_reducible repeat (first | refine blk_drewN ?_ _ | refine blk_drew ?_ | refine blk_alloc ?_ _)); refine blk_far ?_ NB967_982.out _; (with_reducible repeat (first | refine blk_drewN ?_ _ | refine blk_drew ?_ | refine blk_alloc ?_ _)); refine blk_far ?_ NB967_982.out _; (with_reducible repeat (first | refine blk_drewN ?_ _ | refine blk_drew ?_ | refine blk_alloc ?_ _)); exact BK967.out) Try.underlying65 rfl (by kernel_rfl) .nil)))) rfl ?_
                      exact ⟨_, by first | rfl | (simp [errW_none, errW_some] <;> rfl) | (simp [*, errW_none, errW_some] <;> rfl), by (with_reducible repeat (first | apply Kd.S_alloc | apply Kd.S_drewN | apply Kd.S_drew)); exact Kd.S_mono (Kd.S_far (p := ⟨gb967, 1, none⟩) (Kd.S_far (p := ⟨gb967, 0, none⟩) (Kd.S_far (p := ⟨gb983, 1, none⟩) (Kd.S_far (p := ⟨gb983, 0, none⟩) (Kd.S_far (p := ⟨gb982, 1, none⟩) (Kd.S_far (p := ⟨gb982, 0, none⟩) (Kd.S_types (Kd.S_types (Kd.S_mono HO_5.out (fun k_ hk => (⟨hk, hk.2⟩ : _ ∧ k_ ≠ gb982))) BK983.out (by decide)) BK967.out (by decide)) (fun _ hk => hk.1.1.2) (.int .i64 t974)) (fun _ hk => hk.1.1.2) (.slice Ao32 t975.length co32)) (fun _ hk => hk.1.2) (.int .i64 t979)) (fun _ hk => hk.1.2) (.int .i64 t980)) (fun _ hk => hk.2) (.int .i64 0)) (fun _ hk => hk.2) (.int .i64 0)) (fun _ hk => trivial), by repeat (first | (with_reducible first | exact HB.out | apply below_alloc | apply pw_below_drewN | apply below_drew1 | refine below_set ?_ GE967.out | refine below_set ?_ GE982.out | refine below_set ?_ GE983.out) | exact HB.out)⟩
                    · rw [if_neg c24] at H
                      have c24b0 : (t979 == 3) = false := beq_eq_false_iff_ne.mpr c24
                      have c24b1 : (t979 != 3) = true := bne_iff_ne.mpr c24
                      by_cases c36 : t979 = 0
                      · rw [if_pos c36] at H
                        have c36b0 : (t979 == 0) = true := beq_iff_eq.mpr c36
                        have c36b1 : (t979 != 0) = false := bne_eq_false_iff_eq.mpr c36
                        clear c36
                        have HC37 := Aside0.mk H
                        clear H
                        obtain ⟨Ao38, co38, eo38⟩ := Kd.S_slice HO_5.out
                        subst eo38
                        go_upto_region 15 with (first | ((with_reducible refine gate_callee (f := 131) rfl ?_); refine goesL_ (some 58) rfl rfl Try.func131 (by kernel_rfl) rfl #[.slice A0 l0.length c0, .int .i64 x6_3, .int .i64 x7_3, .bool ((x5_3.length : Int) == 300)] rfl (by (try simp only [List.map_toArray, List.map_cons, List.map_nil]); first | done | rfl | (simp only [List.length_drop, List.length_take]; rfl)) ?_; (with_reducible refine (spec_l02Next.calls k3 _ _ l0 x6_3 x7_3 ((x5_3.length : Int) == 300) t974 t975 t978 t979 t980 t981 _ ?side1 ?side2 A23.out).mono ?_); (case side1 => repeat (first | exact (Kd.C_below HR0.out HB.out) | (with_reducible refine Kd.C_alloc ?_ _) | (with_reducible refine Kd.C_drewN ?_ _) | (with_reducible refine Kd.C_drew ?_))); (case side2 => exact HC0.out); rintro e w39 ⟨v976, rfl, ho0, hb⟩; refine ⟨_, rfl, ?_⟩; have n0_ := Aside0.mk (Kd.S_elder' (by (with_reducible repeat (first | apply Kd.S_alloc | apply Kd.S_drewN | apply Kd.S_drew)); exact HO_5.out) (Kd.R_base ho0) hb); have n1_ := Aside0.mk (Kd.R_lower ho0 (below_size (by repeat (first | (with_reducible first | exact HB.out | apply below_alloc | apply pw_below_drewN | apply below_drew1 | refine below_set ?_ GE967.out) | exact HB.out)))); have n2_ := Aside0.mk (blk_below (g := gb967) (o := .cells #[.int .i64 x968000_3, .int .i64 x968001_3] 65 (0, 0)) (by (with_reducible repeat (first | refine blk_drewN ?_ _ | refine blk_drew ?_ | refine blk_alloc ?_ _)); exact BK967.out) hb); have n3_ := Aside0.mk (below_step (by repeat (first | (with_reducible first | exact HB.out | apply below_alloc | apply pw_below_drewN | apply below_drew1 | refine below_set ?_ GE967.out) | exact HB.out)) hb); clear HO_5; clear BK967; clear HB; have HO_5 := n0_; have HO977 := n1_; have BK967 := n2_; have HB := n3_; clear n0_ n1_ n2_ n3_; (try clear hb); (try clear hb2); (try clear hk); (try clear hi); (try clear ho0)) | ((with_reducible refine gate_dst (N := 8) rfl ?_); (try (refine gate_guard (by rfl) ?_; dsimp only)); refine box_event ?hg (N := 8) ?hd (cs := #[.int .i64 0, .slice none 0 0]) (t := 131) ?hr ?_; (case hd => rfl); (case hg => rfl); (case hr => first | (go_simp; done) | (go_simp; rfl)); intro gb982 hg w40 hbox hb; have n0_ := Aside0.mk (Kd.S_below (Kd.S_elderB (by (with_reducible repeat (first | apply Kd.S_alloc | apply Kd.S_drewN | apply Kd.S_drew)); exact HO_5.out) gb982 (Nat.le_of_eq hg.symm)) hb); have n1_ := Aside0.mk (Kd.R_below (by (with_reducible repeat (first | apply Kd.R_alloc | apply Kd.R_drewN | apply Kd.R_drew)); exact HO977.out) hb); have n2_ := Aside0.mk (blk_below (g := gb967) (o := .cells #[.int .i64 x968000_3, .int .i64 x968001_3] 65 (0, 0)) (by (with_reducible repeat (first | refine blk_drewN ?_ _ | refine blk_drew ?_ | refine blk_alloc ?_ _)); exact BK967.out) hb); have n3_ := Aside0.mk (below_step (by repeat (first | (with_reducible first | exact HB.out | apply below_alloc | apply pw_below_drewN | apply below_drew1 | refine below_set ?_ GE967.out) | exact HB.out)) hb); have n4_ := Aside0.mk (hbox); have n5_ := Aside0.mk ((by rw [hg]; exact (below_size (by repeat (first | (with_reducible first | exact HB.out | apply below_alloc | apply pw_below_drewN | apply below_drew1 | refine below_set ?_ GE967.out) | exact HB.out))) : w.heap.size ≤ gb982)); have n6_ := Aside0.mk ((by rw [hg]; exact (below_size (by repeat (first | (with_reducible first | exact HB.out | apply below_alloc | apply pw_below_drewN | apply below_drew1 | refine below_set ?_ GE967.out) | exact HB.out))) : w.heap.size ≤ gb982)); have n7_ := Aside0.mk ((by rw [hg]; exact Nat.ne_of_lt (blk_lt (g := gb967) (o := .cells #[.int .i64 x968000_3, .int .i64 x968001_3] 65 (0, 0)) (by (with_reducible repeat (first | refine blk_drewN ?_ _ | refine blk_drew ?_ | refine blk_alloc ?_ _)); exact BK967.out)) : gb967 ≠ gb982)); have n8_ := Aside0.mk ((by rw [hg]; exact Nat.ne_of_gt (blk_lt (g := gb967) (o := .cells #[.int .i64 x968000_3, .int .i64 x968001_3] 65 (0, 0)) (by (with_reducible repeat (first | refine blk_drewN ?_ _ | refine blk_drew ?_ | refine blk_alloc ?_ _)); exact BK967.out)) : gb982 ≠ gb967)); clear HO_5; clear HO977; clear BK967; clear HB; have HO_5 := n0_; have HO977 := n1_; have BK967 := n2_; have HB := n3_; have BK982 := n4_; have GW982 := n5_; have GE982 := n6_; have NB967_982 := n7_; have NB982_967 := n8_; clear n0_ n1_ n2_ n3_ n4_ n5_ n6_ n7_ n8_; clear hb hbox hg) | ((with_reducible refine gate_dst (N := 10) rfl ?_); (try (refine gate_guard (by rfl) ?_; dsimp only)); refine box_event ?hg (N := 10) ?hd (cs := #[.int .i64 0, .int .i64 0]) (t := 65) ?hr ?_; (case hd => rfl); (case hg => rfl); (case hr => first | (go_simp; done) | (go_simp; rfl)); intro gb983 hg w41 hbox hb; have n0_ := Aside0.mk (Kd.S_below (by (with_reducible repeat (first | apply Kd.S_alloc | apply Kd.S_drewN | apply Kd.S_drew)); exact HO_5.out) hb); have n1_ := Aside0.mk (Kd.R_below (by (with_reducible repeat (first | apply Kd.R_alloc | apply Kd.R_drewN | apply Kd.R_drew)); exact HO977.out) hb); have n2_ := Aside0.mk (blk_below (g := gb967) (o := .cells #[.int .i64 x968000_3, .int .i64 x968001_3] 65 (0, 0)) (by (with_reducible repeat (first | refine blk_drewN ?_ _ | refine blk_drew ?_ | refine blk_alloc ?_ _)); exact BK967.out) hb); have n3_ := Aside0.mk (blk_below (g := gb982) (o := .cells #[.int .i64 0, .slice none 0 0] 131 (0, 0)) (by (with_reducible repeat (first | refine blk_drewN ?_ _ | refine blk_drew ?_ | refine blk_alloc ?_ _)); exact BK982.out) hb); have n4_ := Aside0.mk (below_step (by repeat (first | (with_reducible first | exact HB.out | apply below_alloc | apply pw_below_drewN | apply below_drew1 | refine below_set ?_ GE967.out | refine below_set ?_ GE982.out) | exact HB.out)) hb); have n5_ := Aside0.mk (hbox); have n6_ := Aside0.mk ((by rw [hg]; exact (below_size (by repeat (first | (with_reducible first | exact HB.out | apply below_alloc | apply pw_below_drewN | apply below_drew1 | refine below_set ?_ GE967.out | refine below_set ?_ GE982.out) | exact HB.out))) : w.heap.size ≤ gb983)); have n7_ := Aside0.mk ((by rw [hg]; exact (below_size (by repeat (first | (with_reducible first | exact HB.out | apply below_alloc | apply pw_below_drewN | apply below_drew1 | refine below_set ?_ GE967.out | refine below_set ?_ GE982.out) | exact HB.out))) : w.heap.size ≤ gb983)); have n8_ := Aside0.mk ((by rw [hg]; exact Nat.ne_of_lt (blk_lt (g := gb967) (o := .cells #[.int .i64 x968000_3, .int .i64 x968001_3] 65 (0, 0)) (by (with_reducible repeat (first | refine blk_drewN ?_ _ | refine blk_drew ?_ | refine blk_alloc ?_ _)); exact BK967.out)) : gb967 ≠ gb983)); have n9_ := Aside0.mk ((by rw [hg]; exact Nat.ne_of_gt (blk_lt (g := gb967) (o := .cells #[.int .i64 x968000_3, .int .i64 x968001_3] 65 (0, 0)) (by (with_reducible repeat (first | refine blk_drewN ?_ _ | refine blk_drew ?_ | refine blk_alloc ?_ _)); exact BK967.out)) : gb983 ≠ gb967)); have n10_ := Aside0.mk ((by rw [hg]; exact Nat.ne_of_lt (blk_lt (g := gb982) (o := .cells #[.int .i64 0, .slice none 0 0] 131 (0, 0)) (by (with_reducible repeat (first | refine blk_drewN ?_ _ | refine blk_drew ?_ | refine blk_alloc ?_ _)); exact BK982.out)) : gb982 ≠ gb983)); have n11_ := Aside0.mk ((by rw [hg]; exact Nat.ne_of_gt (blk_lt (g := gb982) (o := .cells #[.int .i64 0, .slice none 0 0] 131 (0, 0)) (by (with_reducible repeat (first | refine blk_drewN ?_ _ | refine blk_drew ?_ | refine blk_alloc ?_ _)); exact BK982.out)) : gb983 ≠ gb982)); clear HO_5; clear HO977; clear BK967; clear BK982; clear HB; have HO_5 := n0_; have HO977 := n1_; have BK967 := n2_; have BK982 := n3_; have HB := n4_; have BK983 := n5_; have GW983 := n6_; have GE983 := n7_; have NB967_983 := n8_; have NB983_967 := n9_; have NB982_983 := n10_; have NB983_982 := n11_; clear n0_ n1_ n2_ n3_ n4_ n5_ n6_ n7_ n8_ n9_ n10_ n11_; clear hb hbox hg; have hnb42 := NB982_967.out; have hnc42 := NB967_982.out; have hnb43 := NB982_983.out; have hnc43 := NB983_982.out; have hcz44_0 : w41.cell? ⟨gb982, 0, none⟩ = some (.int .i64 0) := (blk_cell BK982.out 0).trans rfl; have hcz44_1 : w41.cell? ⟨gb982, 1, none⟩ = some (.slice none 0 0) := (blk_cell BK982.out 1).trans rfl; have hfz44_0 := blk_frozen BK982.out 0; have hfz44_1 := blk_frozen BK982.out 1; obtain ⟨Ao45, co45, eo45⟩ := Kd.R_slice HO977.out; subst eo45; have hnb46 := NB983_967.out; have hnc46 := NB967_983.out; have hcz47_0 : w41.cell? ⟨gb983, 0, none⟩ = some (.int .i64 0) := (blk_cell BK983.out 0).trans rfl; have hcz47_1 : w41.cell? ⟨gb983, 1, none⟩ = some (.int .i64 0) := (blk_cell BK983.out 1).trans rfl; have hfz47_0 := blk_frozen BK983.out 0; have hfz47_1 := blk_frozen BK983.out 1))
                        (try simp only [Act.put, List.setIfInBounds_toArray, List.set_cons_zero, List.set_cons_succ])
                        go_cut [79] (fun v79 wc => ∃ (kq : Nat) (x79_36 : Bool), v79 = .bool x79_36 ∧ Aside0 (spec_SegsSoFar.j3 kq l0 x5_3 t978 t981 x79_36 t974 t975 = some (r1, r2, r3, r4)) ∧ Aside0 (kq ≤ k3) ∧ Aside0 (Kd.S k131 131 wc w.heap.size (fun k_ => some k_ ≠ ((.slice Ao45 t975.length co45) : Value).ownBlock ∧ k_ ≠ gb982) (.slice Ao38 x5_3.length co38) x5_3) ∧ Aside0 (Kd.R (Kd.int .u8) 5 wc w.heap.size (fun _ => True) (.slice Ao45 t975.length co45) t975) ∧ Aside0 (wc.heap[gb967]? = some (.cells #[.int .i64 x968000_3, .int .i64 x968001_3] 65 (0, 0))) ∧ Aside0 (wc.heap[gb982]? = some (.cells #[.int .i64 t974, (.slice Ao45 t975.length co45)] 131 (0, 0))) ∧ Aside0 (wc.heap[gb983]? = some (.cells #[.int .i64 t979, .int .i64 t980] 65 (0, 0))) ∧ Aside0 (Below w.heap.size w wc))
                        case first =>
                          have H := HC37.out
                          clear HC37
                          by_cases c48 : t981 = true
                          · subst c48
                            have H1 : (spec_SegsSoFar.j3 k3 l0 x5_3 t978 true (decide (t978 < (l0.length : Int))) t974 t975) = some (r1, r2, r3, r4) := by rw [if_pos rfl] at H; exact H
                            clear H
                            have H := H1
                            clear H1
                            have H' := Aside0.mk H
                            clear H
                            go_wp2
                            go_meet
                            case rel => exact ⟨_, (decide (t978 < (l0.length : Int))), (by first | rfl | (simp; done) | (simp [*]; done)), H', ⟨by have := HJ6.out; have := HJ15.out; have := HK3.out; first | omega | exact Nat.le_refl _⟩, ⟨by (with_reducible repeat (first | apply Kd.S_alloc | apply Kd.S_drewN | apply Kd.S_drew)); exact Kd.S_mono (Kd.S_far (p := ⟨gb983, 1, none⟩) (Kd.S_far (p := ⟨gb983, 0, none⟩) (Kd.S_far (p := ⟨gb982, 1, none⟩) (Kd.S_far (p := ⟨gb982, 0, none⟩) (Kd.S_types (Kd.S_mono HO_5.out (fun k_ hk => (⟨hk, hk.2⟩ : _ ∧ k_ ≠ gb982))) BK983.out (by decide)) (fun _ hk => hk.1.2) (.int .i64 t974)) (fun _ hk => hk.1.2) (.slice Ao45 t975.length co45)) (fun _ hk => hk.2) (.int .i64 t979)) (fun _ hk => hk.2) (.int .i64 t980)) (fun _ hk => ⟨hk.1.1.1.2, hk.1.1.2⟩)⟩, ⟨by (with_reducible repeat (first | apply Kd.R_alloc | apply Kd.R_drewN | apply Kd.R_drew)); exact Kd.R_mono (Kd.R_far (p := ⟨gb983, 1, none⟩) (Kd.R_far (p := ⟨gb983, 0, none⟩) (Kd.R_far (p := ⟨gb982, 1, none⟩) (Kd.R_far (p := ⟨gb982, 0, none⟩) (Kd.R_types (Kd.R_types HO977.out BK982.out (by decide)) BK983.out (by decide)) (fun _ hk => hk.1.2) (.int .i64 t974)) (fun _ hk => hk.1.2) (.slice Ao45 t975.length co45)) (fun _ hk => hk.2) (.int .i64 t979)) (fun _ hk => hk.2) (.int .i64 t980)) (fun _ hk => trivial)⟩, ⟨by (with_reducible repeat (first | refine blk_drewN ?_ _ | refine blk_drew ?_ | refine blk_alloc ?_ _)); refine blk_far ?_ NB967_983.out _; (with_reducible repeat (first | refine blk_drewN ?_ _ | refine blk_drew ?_ | refine blk_alloc ?_ _)); refine blk_far ?_ NB967_983.out _; (with_reducible repeat (first | refine blk_drewN ?_ _ | refine blk_drew ?_ | refine blk_alloc ?_ _)); refine blk_far ?_ NB967_982.out _; (with_reducible repeat (first | refine blk_drewN ?_ _ | refine blk_drew ?_ | refine blk_alloc ?_ _)); refine blk_far ?_ NB967_982.out _; (with_reducible repeat (first | refine blk_drewN ?_ _ | refine blk_drew ?_ | refine blk_alloc ?_ _)); exact BK967.out⟩, ⟨by (with_reducible repeat (first | refine blk_drewN ?_ _ | refine blk_drew ?_ | refine blk_alloc ?_ _)); refine blk_far ?_ NB982_983.out _; (with_reducible repeat (first | refine blk_drewN ?_ _ | refine blk_drew ?_ | refine blk_alloc ?_ _)); refine blk_far ?_ NB982_983.out _; (with_reducible repeat (first | refine blk_drewN ?_ _ | refine blk_drew ?_ | refine blk_alloc ?_ _)); refine blk_put (cs := #[.int .i64 t974, .slice none 0 0]) ?_ 1 _ rfl; (with_reducible repeat (first | refine blk_drewN ?_ _ | refine blk_drew ?_ | refine blk_alloc ?_ _)); refine blk_put (cs := #[.int .i64 0, .slice none 0 0]) ?_ 0 _ rfl; (with_reducible repeat (first | refine blk_drewN ?_ _ | refine blk_drew ?_ | refine blk_alloc ?_ _)); exact BK982.out⟩, ⟨by (with_reducible repeat (first | refine blk_drewN ?_ _ | refine blk_drew ?_ | refine blk_alloc ?_ _)); refine blk_put (cs := #[.int .i64 t979, .int .i64 0]) ?_ 1 _ rfl; (with_reducible repeat (first | refine blk_drewN ?_ _ | refine blk_drew ?_ | refine blk_alloc ?_ _)); refine blk_put (cs := #[.int .i64 0, .int .i64 0]) ?_ 0 _ rfl; (with_reducible repeat (first | refine blk_drewN ?_ _ | refine blk_drew ?_ | refine blk_alloc ?_ _)); refine blk_far ?_ NB983_982.out _; (with_reducible repeat (first | refine blk_drewN ?_ _ | refine blk_drew ?_ | refine blk_alloc ?_ _)); refine blk_far ?_ NB983_982.out _; (with_reducible repeat (first | refine blk_drewN ?_ _ | refine blk_drew ?_ | refine blk_alloc ?_ _)); exact BK983.out⟩, ⟨by repeat (first | (with_reducible first | exact HB.out | apply below_alloc | apply pw_below_drewN | apply below_drew1 | refine below_set ?_ GE967.out | refine below_set ?_ GE982.out | refine below_set ?_ GE983.out) | exact HB.out)⟩⟩
                          · replace c48 := Bool.eq_false_iff.mpr c48
                            subst c48
                            have H1 : (spec_SegsSoFar.j3 k3 l0 x5_3 t978 false false t974 t975) = some (r1, r2, r3, r4) := by rw [if_neg (show ¬ (false = true) by decide)] at H; exact H
                            clear H
                            have H := H1
                            clear H1
                            have H' := Aside0.mk H
                            clear H
                            go_wp2
                            go_meet
                            case rel => exact ⟨_, (false), (by first | rfl | (simp; done) | (simp [*]; done)), H', ⟨by have := HJ6.out; have := HJ15.out; have := HK3.out; first | omega | exact Nat.le_refl _⟩, ⟨by (with_reducible repeat (first | apply Kd.S_alloc | apply Kd.S_drewN | apply Kd.S_drew)); exact Kd.S_mono (Kd.S_far (p := ⟨gb983, 1, none⟩) (Kd.S_far (p := ⟨gb983, 0, none⟩) (Kd.S_far (p := ⟨gb982, 1, none⟩) (Kd.S_far (p := ⟨gb982, 0, none⟩) (Kd.S_types (Kd.S_mono HO_5.out (fun k_ hk => (⟨hk, hk.2⟩ : _ ∧ k_ ≠ gb982))) BK983.out (by decide)) (fun _ hk => hk.1.2) (.int .i64 t974)) (fun _ hk => hk.1.2) (.slice Ao45 t975.length co45)) (fun _ hk => hk.2) (.int .i64 t979)) (fun _ hk => hk.2) (.int .i64 t980)) (fun _ hk => ⟨hk.1.1.1.2, hk.1.1.2⟩)⟩, ⟨by (with_reducible repeat (first | apply Kd.R_alloc | apply Kd.R_drewN | apply Kd.R_drew)); exact Kd.R_mono (Kd.R_far (p := ⟨gb983, 1, none⟩) (Kd.R_far (p := ⟨gb983, 0, none⟩) (Kd.R_far (p := ⟨gb982, 1, none⟩) (Kd.R_far (p := ⟨gb982, 0, none⟩) (Kd.R_types (Kd.R_types HO977.out BK982.out (by decide)) BK983.out (by decide)) (fun _ hk => hk.1.2) (.int .i64 t974)) (fun _ hk => hk.1.2) (.slice Ao45 t975.length co45)) (fun _ hk => hk.2) (.int .i64 t979)) (fun _ hk => hk.2) (.int .i64 t980)) (fun _ hk => trivial)⟩, ⟨by (with_reducible repeat (first | refine blk_drewN ?_ _ | refine blk_drew ?_ | refine blk_alloc ?_ _)); refine blk_far ?_ NB967_983.out _; (with_reducible repeat (first | refine blk_drewN ?_ _ | refine blk_drew ?_ | refine blk_alloc ?_ _)); refine blk_far ?_ NB967_983.out _; (with_reducible repeat (first | refine blk_drewN ?_ _ | refine blk_drew ?_ | refine blk_alloc ?_ _)); refine blk_far ?_ NB967_982.out _; (with_reducible repeat (first | refine blk_drewN ?_ _ | refine blk_drew ?_ | refine blk_alloc ?_ _)); refine blk_far ?_ NB967_982.out _; (with_reducible repeat (first | refine blk_drewN ?_ _ | refine blk_drew ?_ | refine blk_alloc ?_ _)); exact BK967.out⟩, ⟨by (with_reducible repeat (first | refine blk_drewN ?_ _ | refine blk_drew ?_ | refine blk_alloc ?_ _)); refine blk_far ?_ NB982_983.out _; (with_reducible repeat (first | refine blk_drewN ?_ _ | refine blk_drew ?_ | refine blk_alloc ?_ _)); refine blk_far ?_ NB982_983.out _; (with_reducible repeat (first | refine blk_drewN ?_ _ | refine blk_drew ?_ | refine blk_alloc ?_ _)); refine blk_put (cs := #[.int .i64 t974, .slice none 0 0]) ?_ 1 _ rfl; (with_reducible repeat (first | refine blk_drewN ?_ _ | refine blk_drew ?_ | refine blk_alloc ?_ _)); refine blk_put (cs := #[.int .i64 0, .slice none 0 0]) ?_ 0 _ rfl; (with_reducible repeat (first | refine blk_drewN ?_ _ | refine blk_drew ?_ | refine blk_alloc ?_ _)); exact BK982.out⟩, ⟨by (with_reducible repeat (first | refine blk_drewN ?_ _ | refine blk_drew ?_ | refine blk_alloc ?_ _)); refine blk_put (cs := #[.int .i64 t979, .int .i64 0]) ?_ 1 _ rfl; (with_reducible repeat (first | refine blk_drewN ?_ _ | refine blk_drew ?_ | refine blk_alloc ?_ _)); refine blk_put (cs := #[.int .i64 0, .int .i64 0]) ?_ 0 _ rfl; (with_reducible repeat (first | refine blk_drewN ?_ _ | refine blk_drew ?_ | refine blk_alloc ?_ _)); refine blk_far ?_ NB983_982.out _; (with_reducible repeat (first | refine blk_drewN ?_ _ | refine blk_drew ?_ | refine blk_alloc ?_ _)); refine blk_far ?_ NB983_982.out _; (with_reducible repeat (first | refine blk_drewN ?_ _ | refine blk_drew ?_ | refine blk_alloc ?_ _)); exact BK983.out⟩, ⟨by repeat (first | (with_reducible first | exact HB.out | apply below_alloc | apply pw_below_drewN | apply below_drew1 | refine below_set ?_ GE967.out | refine below_set ?_ GE982.out | refine below_set ?_ GE983.out) | exact HB.out)⟩⟩
                        case rest =>
                          clear HC37
                          try clear c1
                          try clear c2
                          try clear c2b0
                          try clear c2b1
                          try clear p2
                          try clear c3
                          try clear c4
                          try clear c5
                          try clear p9
                          try clear q9
                          try clear hx9
                          try clear qi9
                          try clear c11
                          try clear c11b0
                          try clear c11b1
                          try clear c11b2
                          try clear c12
                          try clear c12b0
                          try clear c12b1
                          try clear c13
                          try clear c13b0
                          try clear c13b1
                          try clear c14
                          try clear c17
                          try clear c17b0
                          try clear c17b1
                          try clear c18
                          try clear c18b0
                          try clear c18b1
                          try clear c19
                          try clear c19b0
                          try clear c19b1
                          try clear c20
                          try clear c20b0
                          try clear c20b1
                          try clear c21
                          try clear c24
                          try clear c24b0
                          try clear c24b1
                          try clear c29
                          try clear c30
                          try clear c33
                          try clear c36
                          try clear c36b0
                          try clear c36b1
                          try clear c42
                          try clear c43
                          try clear c46
                          try clear c48
                          try clear hcz15_0
                          try clear hcz15_1
                          try clear hcz22_0
                          try clear hcz22_1
                          try clear hcz31_0
                          try clear hcz31_1
                          try clear hcz34_0
                          try clear hcz34_1
                          try clear hcz35_0
                          try clear hcz35_1
                          try clear hcz44_0
                          try clear hcz44_1
                          try clear hcz47_0
                          try clear hcz47_1
                          try clear hcz6_0
                          try clear hcz6_1
                          try clear hfz15_0
                          try clear hfz15_1
                          try clear hfz22_0
                          try clear hfz22_1
                          try clear hfz31_0
                          try clear hfz31_1
                          try clear hfz34_0
                          try clear hfz34_1
                          try clear hfz35_0
                          try clear hfz35_1
                          try clear hfz44_0
                          try clear hfz44_1
                          try clear hfz47_0
                          try clear hfz47_1
                          try clear hfz6_0
                          try clear hfz6_1
                          try clear hx971_0
                          try clear hx972_0
                          try clear hx973_0
                          try clear p2
                          try clear p9
                          try clear p971
                          try clear p972
                          try clear p973
                          try clear q9
                          try clear q971
                          try clear q972
                          try clear q973
                          obtain ⟨kq, x79_36, rfl, HA, HJ36, HO_5, HO_983001, BK967, BK982, BK983, HB⟩ := hcut
                          cases kq with
                          | zero => exact absurd HA.out (by simp [spec_SegsSoFar.j3])
                          | succ kj36 =>
                            have H := HA.out
                            clear HA
                            simp only [spec_SegsSoFar.j3] at H
                            by_cases c49 : x79_36 = true
                            · subst c49
                              have H1 : (some (x5_3, true, 7, t978)) = some (r1, r2, r3, r4) := by rw [if_pos rfl] at H; exact H
                              clear H
                              have H := H1
                              clear H1
                              simp only [Option.some.injEq, Prod.mk.injEq] at H
                              obtain ⟨rfl, rfl, rfl, rfl⟩ := H
                              have hnb50 := NB967_982.out
                              have hnc50 := NB982_967.out
                              have hnb51 := NB967_983.out
                              have hnc51 := NB983_967.out
                              have hcz52_0 : wc.cell? ⟨gb967, 0, none⟩ = some (.int .i64 x968000_3) := (blk_cell BK967.out 0).trans rfl
                              have hcz52_1 : wc.cell? ⟨gb967, 1, none⟩ = some (.int .i64 x968001_3) := (blk_cell BK967.out 1).trans rfl
                              have hfz52_0 := blk_frozen BK967.out 0
                              have hfz52_1 := blk_frozen BK967.out 1
                              go_wp2
                              refine bodyPost_ret (results_list (rs := [.tmp 2, .tmp 3, .cell 4 65]) rfl (by simp) (.tmp (.tmp (.cell gb967 65 #[.int .i64 7, .int .i64 t978] (0, 0) _ rfl (by (with_reducible repeat (first | refine blk_drewN ?_ _ | refine blk_drew ?_ | refine blk_alloc ?_ _)); refine blk_put (cs := #[.int .i64 7, .int .i64 x968001_3]) ?_ 1 _ rfl; (with_reducible repeat (first | refine blk_drewN ?_ _ | refine blk_drew ?_ | refine blk_alloc ?_ _)); refine blk_put (cs := #[.int .i64 x968000_3, .int .i64 x968001_3]) ?_ 0 _ rfl; (with_reducible repeat (first | refine blk_drewN ?_ _ | refine blk_drew ?_ | refine blk_alloc ?_ _)); exact BK967.out) Try.underlying65 rfl (by kernel_rfl) .nil)))) rfl ?_
                              exact ⟨_, by first | rfl | (simp [errW_none, errW_some] <;> rfl) | (simp [*, errW_none, errW_some] <;> rfl), by (with_reducible repeat (first | apply Kd.S_alloc | apply Kd.S_drewN | apply Kd.S_drew)); exact Kd.S_mono (Kd.S_far (p := ⟨gb967, 1, none⟩) (Kd.S_far (p := ⟨gb967, 0, none⟩) (Kd.S_types HO_5.out BK967.out (by decide)) (fun _ hk => hk.2) (.int .i64 7)) (fun _ hk => hk.2) (.int .i64 t978)) (fun _ hk => trivial), by repeat (first | (with_reducible first | exact HB.out | apply below_alloc | apply pw_below_drewN | apply below_drew1 | refine below_set ?_ GE967.out | refine below_set ?_ GE982.out | refine below_set ?_ GE983.out) | exact HB.out)⟩
                            · replace c49 := Bool.eq_false_iff.mpr c49
                              subst c49
                              have H1 : (if t981 = true then (some (x5_3, true, 0, 0)) else (if t974 = 0 then (if (wrap64 (t978 + 1)) ≥ (l0.length : Int) then (some (x5_3, false, 0, 0)) else (if x5_3.length < 4398046511104 then ((spec_l02Kind.f t974).bind fun t987 => (spec_SegsSoFar.l0 kj36 l0 (x5_3 ++ [(⟨t974, t975⟩ : S131)]) t978 t987)) else (none))) else (if x5_3.length < 4398046511104 then ((spec_l02Kind.f t974).bind fun t991 => (spec_SegsSoFar.l0 kj36 l0 (x5_3 ++ [(⟨t974, t975⟩ : S131)]) t978 t991)) else (none)))) = some (r1, r2, r3, r4) := by rw [if_neg (show ¬ (false = true) by decide)] at H; exact H
                              clear H
                              have H := H1
                              clear H1
                              by_cases c53 : t981 = true
                              · subst c53
                                have H1 : (some (x5_3, true, 0, 0)) = some (r1, r2, r3, r4) := by rw [if_pos rfl] at H; exact H
                                clear H
                                have H := H1
                                clear H1
                                simp only [Option.some.injEq, Prod.mk.injEq] at H
                                obtain ⟨rfl, rfl, rfl, rfl⟩ := H
                                have hnb54 := NB967_982.out
                                have hnc54 := NB982_967.out
                                have hnb55 := NB967_983.out
                                have hnc55 := NB983_967.out
                                have hcz56_0 : wc.cell? ⟨gb967, 0, none⟩ = some (.int .i64 x968000_3) := (blk_cell BK967.out 0).trans rfl
                                have hcz56_1 : wc.cell? ⟨gb967, 1, none⟩ = some (.int .i64 x968001_3) := (blk_cell BK967.out 1).trans rfl
                                have hfz56_0 := blk_frozen BK967.out 0
                                have hfz56_1 := blk_frozen BK967.out 1
                                go_wp2
                                refine bodyPost_ret (results_list (rs := [.tmp 2, .tmp 3, .cell 4 65]) rfl (by simp) (.tmp (.tmp (.cell gb967 65 #[.int .i64 0, .int .i64 0] (0, 0) _ rfl (by (with_reducible repeat (first | refine blk_drewN ?_ _ | refine blk_drew ?_ | refine blk_alloc ?_ _)); refine blk_put (cs := #[.int .i64 0, .int .i64 x968001_3]) ?_ 1 _ rfl; (with_reducible repeat (first | refine blk_drewN ?_ _ | refine blk_drew ?_ | refine blk_alloc ?_ _)); refine blk_put (cs := #[.int .i64 x968000_3, .int .i64 x968001_3]) ?_ 0 _ rfl; (with_reducible repeat (first | refine blk_drewN ?_ _ | refine blk_drew ?_ | refine blk_alloc ?_ _)); exact BK967.out) Try.underlying65 rfl (by kernel_rfl) .nil)))) rfl ?_
                                exact ⟨_, by first | rfl | (simp [errW_none, errW_some] <;> rfl) | (simp [*, errW_none, errW_some] <;> rfl), by (with_reducible repeat (first | apply Kd.S_alloc | apply Kd.S_drewN | apply Kd.S_drew)); exact Kd.S_mono (Kd.S_far (p := ⟨gb967, 1, none⟩) (Kd.S_far (p := ⟨gb967, 0, none⟩) (Kd.S_types HO_5.out BK967.out (by decide)) (fun _ hk => hk.2) (.int .i64 0)) (fun _ hk => hk.2) (.int .i64 0)) (fun _ hk => trivial), by repeat (first | (with_reducible first | exact HB.out | apply below_alloc | apply pw_below_drewN | apply below_drew1 | refine below_set ?_ GE967.out | refine below_set ?_ GE982.out | refine below_set ?_ GE983.out) | exact HB.out)⟩
                              · replace c53 := Bool.eq_false_iff.mpr c53
                                subst c53
                                have H1 : (if t974 = 0 then (if (wrap64 (t978 + 1)) ≥ (l0.length : Int) then (some (x5_3, false, 0, 0)) else (if x5_3.length < 4398046511104 then ((spec_l02Kind.f t974).bind fun t987 => (spec_SegsSoFar.l0 kj36 l0 (x5_3 ++ [(⟨t974, t975⟩ : S131)]) t978 t987)) else (none))) else (if x5_3.length < 4398046511104 then ((spec_l02Kind.f t974).bind fun t991 => (spec_SegsSoFar.l0 kj36 l0 (x5_3 ++ [(⟨t974, t975⟩ : S131)]) t978 t991)) else (none))) = some (r1, r2, r3, r4) := by rw [if_neg (show ¬ (false = true) by decide)] at H; exact H
                                clear H
                                have H := H1
                                clear H1
                                by_cases c57 : t974 = 0
                                · rw [if_pos c57] at H
                                  have c57b0 : (t974 == 0) = true := beq_iff_eq.mpr c57
                                  have c57b1 : (t974 != 0) = false := bne_eq_false_iff_eq.mpr c57
                                  clear c57
                                  by_cases c58 : (wrap64 (t978 + 1)) ≥ (l0.length : Int)
                                  · rw [if_pos c58] at H
                                    have c58b0 : decide ((l0.length : Int) ≤ (wrap64 (t978 + 1))) = true := decide_eq_true c58
                                    clear c58
                                    simp only [Option.some.injEq, Prod.mk.injEq] at H
                                    obtain ⟨rfl, rfl, rfl, rfl⟩ := H
                                    have hnb59 := NB982_967.out
                                    have hnc59 := NB967_982.out
                                    have hnb60 := NB982_983.out
                                    have hnc60 := NB983_982.out
                                    have hcz61_0 : wc.cell? ⟨gb982, 0, none⟩ = some (.int .i64 t974) := (blk_cell BK982.out 0).trans rfl
                                    have hcz61_1 : wc.cell? ⟨gb982, 1, none⟩ = some (.slice Ao45 t975.length co45) := (blk_cell BK982.out 1).trans rfl
                                    have hfz61_0 := blk_frozen BK982.out 0
                                    have hfz61_1 := blk_frozen BK982.out 1
                                    have hnb62 := NB967_983.out
                                    have hnc62 := NB983_967.out
                                    have hcz63_0 : wc.cell? ⟨gb967, 0, none⟩ = some (.int .i64 x968000_3) := (blk_cell BK967.out 0).trans rfl
                                    have hcz63_1 : wc.cell? ⟨gb967, 1, none⟩ = some (.int .i64 x968001_3) := (blk_cell BK967.out 1).trans rfl
                                    have hfz63_0 := blk_frozen BK967.out 0
                                    have hfz63_1 := blk_frozen BK967.out 1
                                    go_wp2
                                    refine bodyPost_ret (results_list (rs := [.tmp 2, .tmp 3, .cell 4 65]) rfl (by simp) (.tmp (.tmp (.cell gb967 65 #[.int .i64 0, .int .i64 0] (0, 0) _ rfl (by (with_reducible repeat (first | refine blk_drewN ?_ _ | refine blk_drew ?_ | refine blk_alloc ?_ _)); refine blk_put (cs := #[.int .i64 0, .int .i64 x968001_3]) ?_ 1 _ rfl; (with_reducible repeat (first | refine blk_drewN ?_ _ | refine blk_drew ?_ | refine blk_alloc ?_ _)); refine blk_put (cs := #[.int .i64 x968000_3, .int .i64 x968001_3]) ?_ 0 _ rfl; (with_reducible repeat (first | refine blk_drewN ?_ _ | refine blk_drew ?_ | refine blk_alloc ?_ _)); exact BK967.out) Try.underlying65 rfl (by kernel_rfl) .nil)))) rfl ?_
                                    exact ⟨_, by first | rfl | (simp [errW_none, errW_some] <;> rfl) | (simp [*, errW_none, errW_some] <;> rfl), by (with_reducible repeat (first | apply Kd.S_alloc | apply Kd.S_drewN | apply Kd.S_drew)); exact Kd.S_mono (Kd.S_far (p := ⟨gb967, 1, none⟩) (Kd.S_far (p := ⟨gb967, 0, none⟩) (Kd.S_types HO_5.out BK967.out (by decide)) (fun _ hk => hk.2) (.int .i64 0)) (fun _ hk => hk.2) (.int .i64 0)) (fun _ hk => trivial), by repeat (first | (with_reducible first | exact HB.out | apply below_alloc | apply pw_below_drewN | apply below_drew1 | refine below_set ?_ GE967.out | refine below_set ?_ GE982.out | refine below_set ?_ GE983.out) | exact HB.out)⟩
                                  · rw [if_neg c58] at H
                                    have c58b0 : decide ((l0.length : Int) ≤ (wrap64 (t978 + 1))) = false := decide_eq_false c58
                                    clear c58
                                    by_cases c64 : x5_3.length < 4398046511104
                                    · rw [if_pos c64] at H
                                      have LMc64 := Aside0.mk c64
                                      clear c64
                                      obtain ⟨y984, hy984⟩ : ∃ y_ : List (S131), y_ = (x5_3 ++ [(⟨t974, t975⟩ : S131)]) := ⟨_, rfl⟩
                                      replace H : ((spec_l02Kind.f t974).bind fun t987 => (spec_SegsSoFar.l0 kj36 l0 y984 t978 t987)) = some (r1, r2, r3, r4) := by first | (rw [hy984]; with_reducible exact H) | (have H2_ := (Option.bind_some _ _).symm.trans H; rw [hy984]; with_reducible exact H2_) | (have H2_ := (Option.bind_some _ _).symm.trans H; with_reducible exact H2_) | with_reducible exact H | (rw [hy984]; exact H) | exact H
                                      have Ny984 := Aside0.mk hy984
                                      clear hy984
                                      replace H := Option.bind_eq_some_iff.mp H
                                      obtain ⟨t987, A650, H⟩ := H
                                      replace H : (spec_SegsSoFar.l0 kj36 l0 y984 t978 t987) = some (r1, r2, r3, r4) := H
                                      have A65 := Aside0.mk A650
                                      clear A650
                                      have H' := Aside0.mk H
                                      clear H
                                      have hnb66 := NB982_967.out
                                      have hnc66 := NB967_982.out
                                      have hnb67 := NB982_983.out
                                      have hnc67 := NB983_982.out
                                      have hcz68_0 : wc.cell? ⟨gb982, 0, none⟩ = some (.int .i64 t974) := (blk_cell BK982.out 0).trans rfl
                                      have hcz68_1 : wc.cell? ⟨gb982, 1, none⟩ = some (.slice Ao45 t975.length co45) := (blk_cell BK982.out 1).trans rfl
                                      have hfz68_0 := blk_frozen BK982.out 0
                                      have hfz68_1 := blk_frozen BK982.out 1
                                      go_wp2_with (first | ((with_reducible refine gate_builtin (b := .append) (xs := #[.tmp 98, .tmp 100]) rfl ?_); (try (refine gate_guard (by rfl) ?_; dsimp only)); at_builtin; refine Kd.S_append k131 (w0 := w) w.heap.size rfl (.tmp 98) (.tmp 100) 63 131 (.agg #[(.int .i64 0), (.slice none 0 0)]) 32 rfl Try.underlying63 info131 rfl (by decide) (by omega) (.slice Ao38 x5_3.length co38) x5_3 (⟨t974, t975⟩ : S131) [.int .i64 t974, .slice Ao45 t975.length co45] (fun k_ => k_ ≠ gb982) (fun k_ => some k_ = (.slice Ao45 t975.length co45 : Value).ownBlock) rfl rfl ?aP (fun k_ hk_ => ((Kd.R_mono (ok' := fun k_ => ((fun k_ => k_ ≠ gb982)) k_ ∧ some k_ ≠ (.slice Ao38 x5_3.length co38 : Value).ownBlock) (Kd.R_types (Kd.R_apart' (HO_983001.out) (Kd.S_typed HO_5.out) (by decide)) BK982.out (by decide)) (fun k_ hk => ⟨hk.2, hk.1.2⟩))).1 k_ hk_.symm) ?aF ?aO ?aB ?aS ?aL ?_; (case aP => exact k131_mkM _ _ _ (⟨t974, t975⟩ : S131) (Kd.R_mono (Kd.R_tight rfl (Kd.R_mono (ok' := fun k_ => ((fun k_ => k_ ≠ gb982)) k_ ∧ some k_ ≠ (.slice Ao38 x5_3.length co38 : Value).ownBlock) (Kd.R_types (Kd.R_apart' (HO_983001.out) (Kd.S_typed HO_5.out) (by decide)) BK982.out (by decide)) (fun k_ hk => ⟨hk.2, hk.1.2⟩))) (fun _ h_ => h_))); (case aB => exact (by repeat (first | (with_reducible first | exact HB.out | apply below_alloc | apply pw_below_drewN | apply below_drew1 | refine below_set ?_ GE967.out | refine below_set ?_ GE982.out | refine below_set ?_ GE983.out) | exact HB.out))); (case aF => exact (fun k_ hk => Kd.freshB (g := gb982) (o := .cells #[.int .i64 t974, .slice Ao45 t975.length co45] 131 (0, 0)) (by (with_reducible repeat (first | refine blk_drewN ?_ _ | refine blk_drew ?_ | refine blk_alloc ?_ _)); exact BK982.out) k_ hk)); (case aO => exact (by (with_reducible repeat (first | apply Kd.S_alloc | apply Kd.S_drewN | apply Kd.S_drew)); exact Kd.S_mono HO_5.out (fun k_ hk => ⟨hk.2, fun e_ => hk.1 e_⟩))); (case aS => exact (below_size (by repeat (first | (with_reducible first | exact HB.out | apply below_alloc | apply pw_below_drewN | apply below_drew1 | refine below_set ?_ GE967.out | refine below_set ?_ GE982.out | refine below_set ?_ GE983.out) | exact HB.out)))); (case aL => have := LMc64.out; omega); intro v985 w69 ho hb hg hat; rw [← Ny984.out] at ho; have n0_ := Aside0.mk (blk_grown (g := gb967) (o := .cells #[.int .i64 x968000_3, .int .i64 x968001_3] 65 (0, 0)) (by (with_reducible repeat (first | refine blk_drewN ?_ _ | refine blk_drew ?_ | refine blk_alloc ?_ _)); exact BK967.out) hg (Kd.S_ne HO_5.out BK967.out (by decide))); have n1_ := Aside0.mk (blk_grown (g := gb982) (o := .cells #[.int .i64 t974, .slice Ao45 t975.length co45] 131 (0, 0)) (by (with_reducible repeat (first | refine blk_drewN ?_ _ | refine blk_drew ?_ | refine blk_alloc ?_ _)); exact BK982.out) hg (Kd.S_away HO_5.out (fun _ hk => hk.2))); have n2_ := Aside0.mk (blk_grown (g := gb983) (o := .cells #[.int .i64 t979, .int .i64 t980] 65 (0, 0)) (by (with_reducible repeat (first | refine blk_drewN ?_ _ | refine blk_drew ?_ | refine blk_alloc ?_ _)); exact BK983.out) hg (Kd.S_ne HO_5.out BK983.out (by decide))); have n3_ := Aside0.mk (hb); have n4_ := Aside0.mk (ho); clear BK967; clear BK982; clear BK983; clear HB; clear HO_5; clear HO_983001; have BK967 := n0_; have BK982 := n1_; have BK983 := n2_; have HB := n3_; have HO986 := n4_; clear n0_ n1_ n2_ n3_ n4_; clear ho hb hg hat; have hcz70_0 : w69.cell? ⟨gb982, 0, none⟩ = some (.int .i64 t974) := (blk_cell BK982.out 0).trans rfl; have hcz70_1 : w69.cell? ⟨gb982, 1, none⟩ = some (.slice Ao45 t975.length co45) := (blk_cell BK982.out 1).trans rfl; have hfz70_0 := blk_frozen BK982.out 0; have hfz70_1 := blk_frozen BK982.out 1) | ((with_reducible refine gate_callee (f := 132) rfl ?_); refine goesL_ (some 104) rfl rfl Try.func132 (by kernel_rfl) rfl #[.int .i64 t974] rfl (by (try simp only [List.map_toArray, List.map_cons, List.map_nil]); first | done | rfl | (simp only [List.length_drop, List.length_take]; rfl)) ?_; (with_reducible refine (spec_l02Kind.calls t974 t987 _ A65.out).mono ?_); rintro e w' ⟨rfl, ⟨nd, rfl⟩⟩; refine ⟨_, rfl, ?_⟩))
                                      go_roundg kj36
                                      case measure => have := HJ6.out; have := HJ15.out; have := HK3.out; have := HJ36.out; omega
                                      case rel => exact ⟨(y984), (t978), (t987), (x968000_3), (x968001_3), (by first | rfl | (simp; done) | (simp [*]; done)), (by first | rfl | (simp; done) | (simp [*]; done)), H', ⟨by have := HJ6.out; have := HJ15.out; have := HK3.out; have := HJ36.out; omega⟩, ⟨by (with_reducible repeat (first | apply Kd.S_alloc | apply Kd.S_drewN | apply Kd.S_drew)); exact Kd.S_mono HO986.out (fun _ hk => trivial)⟩, ⟨by (with_reducible repeat (first | refine blk_drewN ?_ _ | refine blk_drew ?_ | refine blk_alloc ?_ _)); exact BK967.out⟩, ⟨by repeat (first | (with_reducible first | exact HB.out | apply below_alloc | apply pw_below_drewN | apply below_drew1 | refine below_set ?_ GE967.out | refine below_set ?_ GE982.out | refine below_set ?_ GE983.out) | exact HB.out)⟩⟩
                                    · rw [if_neg c64] at H
                                      exact absurd H (by simp)
                                · rw [if_neg c57] at H
                                  have c57b0 : (t974 == 0) = false := beq_eq_false_iff_ne.mpr c57
                                  have c57b1 : (t974 != 0) = true := bne_iff_ne.mpr c57
                                  by_cases c71 : x5_3.length < 4398046511104
                                  · rw [if_pos c71] at H
                                    have LMc71 := Aside0.mk c71
                                    clear c71
                                    obtain ⟨y988, hy988⟩ : ∃ y_ : List (S131), y_ = (x5_3 ++ [(⟨t974, t975⟩ : S131)]) := ⟨_, rfl⟩
                                    replace H : ((spec_l02Kind.f t974).bind fun t991 => (spec_SegsSoFar.l0 kj36 l0 y988 t978 t991)) = some (r1, r2, r3, r4) := by first | (rw [hy988]; with_reducible exact H) | (have H2_ := (Option.bind_some _ _).symm.trans H; rw [hy988]; with_reducible exact H2_) | (have H2_ := (Option.bind_some _ _).symm.trans H; with_reducible exact H2_) | with_reducible exact H | (rw [hy988]; exact H) | exact H
                                    have Ny988 := Aside0.mk hy988
                                    clear hy988
                                    replace H := Option.bind_eq_some_iff.mp H
                                    obtain ⟨t991, A720, H⟩ := H
                                    replace H : (spec_SegsSoFar.l0 kj36 l0 y988 t978 t991) = some (r1, r2, r3, r4) := H
                                    have A72 := Aside0.mk A720
                                    clear A720
                                    have H' := Aside0.mk H
                                    clear H
                                    have hnb73 := NB982_967.out
                                    have hnc73 := NB967_982.out
                                    have hnb74 := NB982_983.out
                                    have hnc74 := NB983_982.out
                                    have hcz75_0 : wc.cell? ⟨gb982, 0, none⟩ = some (.int .i64 t974) := (blk_cell BK982.out 0).trans rfl
                                    have hcz75_1 : wc.cell? ⟨gb982, 1, none⟩ = some (.slice Ao45 t975.length co45) := (blk_cell BK982.out 1).trans rfl
                                    have hfz75_0 := blk_frozen BK982.out 0
                                    have hfz75_1 := blk_frozen BK982.out 1
                                    go_wp2_with (first | ((with_reducible refine gate_builtin (b := .append) (xs := #[.tmp 98, .tmp 100]) rfl ?_); (try (refine gate_guard (by rfl) ?_; dsimp only)); at_builtin; refine Kd.S_append k131 (w0 := w) w.heap.size rfl (.tmp 98) (.tmp 100) 63 131 (.agg #[(.int .i64 0), (.slice none 0 0)]) 32 rfl Try.underlying63 info131 rfl (by decide) (by omega) (.slice Ao38 x5_3.length co38) x5_3 (⟨t974, t975⟩ : S131) [.int .i64 t974, .slice Ao45 t975.length co45] (fun k_ => k_ ≠ gb982) (fun k_ => some k_ = (.slice Ao45 t975.length co45 : Value).ownBlock) rfl rfl ?aP (fun k_ hk_ => ((Kd.R_mono (ok' := fun k_ => ((fun k_ => k_ ≠ gb982)) k_ ∧ some k_ ≠ (.slice Ao38 x5_3.length co38 : Value).ownBlock) (Kd.R_types (Kd.R_apart' (HO_983001.out) (Kd.S_typed HO_5.out) (by decide)) BK982.out (by decide)) (fun k_ hk => ⟨hk.2, hk.1.2⟩))).1 k_ hk_.symm) ?aF ?aO ?aB ?aS ?aL ?_; (case aP => exact k131_mkM _ _ _ (⟨t974, t975⟩ : S131) (Kd.R_mono (Kd.R_tight rfl (Kd.R_mono (ok' := fun k_ => ((fun k_ => k_ ≠ gb982)) k_ ∧ some k_ ≠ (.slice Ao38 x5_3.length co38 : Value).ownBlock) (Kd.R_types (Kd.R_apart' (HO_983001.out) (Kd.S_typed HO_5.out) (by decide)) BK982.out (by decide)) (fun k_ hk => ⟨hk.2, hk.1.2⟩))) (fun _ h_ => h_))); (case aB => exact (by repeat (first | (with_reducible first | exact HB.out | apply below_alloc | apply pw_below_drewN | apply below_drew1 | refine below_set ?_ GE967.out | refine below_set ?_ GE982.out | refine below_set ?_ GE983.out) | exact HB.out))); (case aF => exact (fun k_ hk => Kd.freshB (g := gb982) (o := .cells #[.int .i64 t974, .slice Ao45 t975.length co45] 131 (0, 0)) (by (with_reducible repeat (first | refine blk_drewN ?_ _ | refine blk_drew ?_ | refine blk_alloc ?_ _)); exact BK982.out) k_ hk)); (case aO => exact (by (with_reducible repeat (first | apply Kd.S_alloc | apply Kd.S_drewN | apply Kd.S_drew)); exact Kd.S_mono HO_5.out (fun k_ hk => ⟨hk.2, fun e_ => hk.1 e_⟩))); (case aS => exact (below_size (by repeat (first | (with_reducible first | exact HB.out | apply below_alloc | apply pw_below_drewN | apply below_drew1 | refine below_set ?_ GE967.out | refine below_set ?_ GE982.out | refine below_set ?_ GE983.out) | exact HB.out)))); (case aL => have := LMc71.out; omega); intro v989 w76 ho hb hg hat; rw [← Ny988.out] at ho; have n0_ := Aside0.mk (blk_grown (g := gb967) (o := .cells #[.int .i64 x968000_3, .int .i64 x968001_3] 65 (0, 0)) (by (with_reducible repeat (first | refine blk_drewN ?_ _ | refine blk_drew ?_ | refine blk_alloc ?_ _)); exact BK967.out) hg (Kd.S_ne HO_5.out BK967.out (by decide))); have n1_ := Aside0.mk (blk_grown (g := gb982) (o := .cells #[.int .i64 t974, .slice Ao45 t975.length co45] 131 (0, 0)) (by (with_reducible repeat (first | refine blk_drewN ?_ _ | refine blk_drew ?_ | refine blk_alloc ?_ _)); exact BK982.out) hg (Kd.S_away HO_5.out (fun _ hk => hk.2))); have n2_ := Aside0.mk (blk_grown (g := gb983) (o := .cells #[.int .i64 t979, .int .i64 t980] 65 (0, 0)) (by (with_reducible repeat (first | refine blk_drewN ?_ _ | refine blk_drew ?_ | refine blk_alloc ?_ _)); exact BK983.out) hg (Kd.S_ne HO_5.out BK983.out (by decide))); have n3_ := Aside0.mk (hb); have n4_ := Aside0.mk (ho); clear BK967; clear BK982; clear BK983; clear HB; clear HO_5; clear HO_983001; have BK967 := n0_; have BK982 := n1_; have BK983 := n2_; have HB := n3_; have HO990 := n4_; clear n0_ n1_ n2_ n3_ n4_; clear ho hb hg hat; have hcz77_0 : w76.cell? ⟨gb982, 0, none⟩ = some (.int .i64 t974) := (blk_cell BK982.out 0).trans rfl; have hcz77_1 : w76.cell? ⟨gb982, 1, none⟩ = some (.slice Ao45 t975.length co45) := (blk_cell BK982.out 1).trans rfl; have hfz77_0 := blk_frozen BK982.out 0; have hfz77_1 := blk_frozen BK982.out 1) | ((with_reducible refine gate_callee (f := 132) rfl ?_); refine goesL_ (some 104) rfl rfl Try.func132 (by kernel_rfl) rfl #[.int .i64 t974] rfl (by (try simp only [List.map_toArray, List.map_cons, List.map_nil]); first | done | rfl | (simp only [List.length_drop, List.length_take]; rfl)) ?_; (with_reducible refine (spec_l02Kind.calls t974 t991 _ A72.out).mono ?_); rintro e w' ⟨rfl, ⟨nd, rfl⟩⟩; refine ⟨_, rfl, ?_⟩))
                                    go_roundg kj36
                                    case measure => have := HJ6.out; have := HJ15.out; have := HK3.out; have := HJ36.out; omega
                                    case rel => exact ⟨(y988), (t978), (t991), (x968000_3), (x968001_3), (by first | rfl | (simp; done) | (simp [*]; done)), (by first | rfl | (simp; done) | (simp [*]; done)), H', ⟨by have := HJ6.out; have := HJ15.out; have := HK3.out; have := HJ36.out; omega⟩, ⟨by (with_reducible repeat (first | apply Kd.S_alloc | apply Kd.S_drewN | apply Kd.S_drew)); exact Kd.S_mono HO990.out (fun _ hk => trivial)⟩, ⟨by (with_reducible repeat (first | refine blk_drewN ?_ _ | refine blk_drew ?_ | refine blk_alloc ?_ _)); exact BK967.out⟩, ⟨by repeat (first | (with_reducible first | exact HB.out | apply below_alloc | apply pw_below_drewN | apply below_drew1 | refine below_set ?_ GE967.out | refine below_set ?_ GE982.out | refine below_set ?_ GE983.out) | exact HB.out)⟩⟩
                                  · rw [if_neg c71] at H
                                    exact absurd H (by simp)
                      · rw [if_neg c36] at H
                        have c36b0 : (t979 == 0) = false := beq_eq_false_iff_ne.mpr c36
                        have c36b1 : (t979 != 0) = true := bne_iff_ne.mpr c36
                        simp only [Option.some.injEq, Prod.mk.injEq] at H
                        obtain ⟨rfl, rfl, rfl, rfl⟩ := H
                        obtain ⟨Ao78, co78, eo78⟩ := Kd.S_slice HO_5.out
                        subst eo78
                        try go_wp2_with (first | ((with_reducible refine gate_callee (f := 131) rfl ?_); refine goesL_ (some 58) rfl rfl Try.func131 (by kernel_rfl) rfl #[.slice A0 l0.length c0, .int .i64 x6_3, .int .i64 x7_3, .bool ((x5_3.length : Int) == 300)] rfl (by (try simp only [List.map_toArray, List.map_cons, List.map_nil]); first | done | rfl | (simp only [List.length_drop, List.length_take]; rfl)) ?_; (with_reducible refine (spec_l02Next.calls k3 _ _ l0 x6_3 x7_3 ((x5_3.length : Int) == 300) t974 t975 t978 t979 t980 t981 _ ?side1 ?side2 A23.out).mono ?_); (case side1 => repeat (first | exact (Kd.C_below HR0.out HB.out) | (with_reducible refine Kd.C_alloc ?_ _) | (with_reducible refine Kd.C_drewN ?_ _) | (with_reducible refine Kd.C_drew ?_))); (case side2 => exact HC0.out); rintro e w79 ⟨v976, rfl, ho0, hb⟩; refine ⟨_, rfl, ?_⟩; have n0_ := Aside0.mk (Kd.S_elder' (by (with_reducible repeat (first | apply Kd.S_alloc | apply Kd.S_drewN | apply Kd.S_drew)); exact HO_5.out) (Kd.R_base ho0) hb); have n1_ := Aside0.mk (Kd.R_lower ho0 (below_size (by repeat (first | (with_reducible first | exact HB.out | apply below_alloc | apply pw_below_drewN | apply below_drew1 | refine below_set ?_ GE967.out) | exact HB.out)))); have n2_ := Aside0.mk (blk_below (g := gb967) (o := .cells #[.int .i64 x968000_3, .int .i64 x968001_3] 65 (0, 0)) (by (with_reducible repeat (first | refine blk_drewN ?_ _ | refine blk_drew ?_ | refine blk_alloc ?_ _)); exact BK967.out) hb); have n3_ := Aside0.mk (below_step (by repeat (first | (with_reducible first | exact HB.out | apply below_alloc | apply pw_below_drewN | apply below_drew1 | refine below_set ?_ GE967.out) | exact HB.out)) hb); clear HO_5; clear BK967; clear HB; have HO_5 := n0_; have HO977 := n1_; have BK967 := n2_; have HB := n3_; clear n0_ n1_ n2_ n3_; (try clear hb); (try clear hb2); (try clear hk); (try clear hi); (try clear ho0)) | ((with_reducible refine gate_dst (N := 8) rfl ?_); (try (refine gate_guard (by rfl) ?_; dsimp only)); refine box_event ?hg (N := 8) ?hd (cs := #[.int .i64 0, .slice none 0 0]) (t := 131) ?hr ?_; (case hd => rfl); (case hg => rfl); (case hr => first | (go_simp; done) | (go_simp; rfl)); intro gb982 hg w80 hbox hb; have n0_ := Aside0.mk (Kd.S_below (Kd.S_elderB (by (with_reducible repeat (first | apply Kd.S_alloc | apply Kd.S_drewN | apply Kd.S_drew)); exact HO_5.out) gb982 (Nat.le_of_eq hg.symm)) hb); have n1_ := Aside0.mk (Kd.R_below (by (with_reducible repeat (first | apply Kd.R_alloc | apply Kd.R_drewN | apply Kd.R_drew)); exact HO977.out) hb); have n2_ := Aside0.mk (blk_below (g := gb967) (o := .cells #[.int .i64 x968000_3, .int .i64 x968001_3] 65 (0, 0)) (by (with_reducible repeat (first | refine blk_drewN ?_ _ | refine blk_drew ?_ | refine blk_alloc ?_ _)); exact BK967.out) hb); have n3_ := Aside0.mk (below_step (by repeat (first | (with_reducible first | exact HB.out | apply below_alloc | apply pw_below_drewN | apply below_drew1 | refine below_set ?_ GE967.out) | exact HB.out)) hb); have n4_ := Aside0.mk (hbox); have n5_ := Aside0.mk ((by rw [hg]; exact (below_size (by repeat (first | (with_reducible first | exact HB.out | apply below_alloc | apply pw_below_drewN | apply below_drew1 | refine below_set ?_ GE967.out) | exact HB.out))) : w.heap.size ≤ gb982)); have n6_ := Aside0.mk ((by rw [hg]; exact (below_size (by repeat (first | (with_reducible first | exact HB.out | apply below_alloc | apply pw_below_drewN | apply below_drew1 | refine below_set ?_ GE967.out) | exact HB.out))) : w.heap.size ≤ gb982)); have n7_ := Aside0.mk ((by rw [hg]; exact Nat.ne_of_lt (blk_lt (g := gb967) (o := .cells #[.int .i64 x968000_3, .int .i64 x968001_3] 65 (0, 0)) (by (with_reducible repeat (first | refine blk_drewN ?_ _ | refine blk_drew ?_ | refine blk_alloc ?_ _)); exact BK967.out)) : gb967 ≠ gb982)); have n8_ := Aside0.mk ((by rw [hg]; exact Nat.ne_of_gt (blk_lt (g := gb967) (o := .cells #[.int .i64 x968000_3, .int .i64 x968001_3] 65 (0, 0)) (by (with_reducible repeat (first | refine blk_drewN ?_ _ | refine blk_drew ?_ | refine blk_alloc ?_ _)); exact BK967.out)) : gb982 ≠ gb967)); clear HO_5; clear HO977; clear BK967; clear HB; have HO_5 := n0_; have HO977 := n1_; have BK967 := n2_; have HB := n3_; have BK982 := n4_; have GW982 := n5_; have GE982 := n6_; have NB967_982 := n7_; have NB982_967 := n8_; clear n0_ n1_ n2_ n3_ n4_ n5_ n6_ n7_ n8_; clear hb hbox hg) | ((with_reducible refine gate_dst (N := 10) rfl ?_); (try (refine gate_guard (by rfl) ?_; dsimp only)); refine box_event ?hg (N := 10) ?hd (cs := #[.int .i64 0, .int .i64 0]) (t := 65) ?hr ?_; (case hd => rfl); (case hg => rfl); (case hr => first | (go_simp; done) | (go_simp; rfl)); intro gb983 hg w81 hbox hb; have n0_ := Aside0.mk (Kd.S_below (by (with_reducible repeat (first | apply Kd.S_alloc | apply Kd.S_drewN | apply Kd.S_drew)); exact HO_5.out) hb); have n1_ := Aside0.mk (Kd.R_below (by (with_reducible repeat (first | apply Kd.R_alloc | apply Kd.R_drewN | apply Kd.R_drew)); exact HO977.out) hb); have n2_ := Aside0.mk (blk_below (g := gb967) (o := .cells #[.int .i64 x968000_3, .int .i64 x968001_3] 65 (0, 0)) (by (with_reducible repeat (first | refine blk_drewN ?_ _ | refine blk_drew ?_ | refine blk_alloc ?_ _)); exact BK967.out) hb); have n3_ := Aside0.mk (blk_below (g := gb982) (o := .cells #[.int .i64 0, .slice none 0 0] 131 (0, 0)) (by (with_reducible repeat (first | refine blk_drewN ?_ _ | refine blk_drew ?_ | refine blk_alloc ?_ _)); exact BK982.out) hb); have n4_ := Aside0.mk (below_step (by repeat (first | (with_reducible first | exact HB.out | apply below_alloc | apply pw_below_drewN | apply below_drew1 | refine below_set ?_ GE967.out | refine below_set ?_ GE982.out) | exact HB.out)) hb); have n5_ := Aside0.mk (hbox); have n6_ := Aside0.mk ((by rw [hg]; exact (below_size (by repeat (first | (with_reducible first | exact HB.out | apply below_alloc | apply pw_below_drewN | apply below_drew1 | refine below_set ?_ GE967.out | refine below_set ?_ GE982.out) | exact HB.out))) : w.heap.size ≤ gb983)); have n7_ := Aside0.mk ((by rw [hg]; exact (below_size (by repeat (first | (with_reducible first | exact HB.out | apply below_alloc | apply pw_below_drewN | apply below_drew1 | refine below_set ?_ GE967.out | refine below_set ?_ GE982.out) | exact HB.out))) : w.heap.size ≤ gb983)); have n8_ := Aside0.mk ((by rw [hg]; exact Nat.ne_of_lt (blk_lt (g := gb967) (o := .cells #[.int .i64 x968000_3, .int .i64 x968001_3] 65 (0, 0)) (by (with_reducible repeat (first | refine blk_drewN ?_ _ | refine blk_drew ?_ | refine blk_alloc ?_ _)); exact BK967.out)) : gb967 ≠ gb983)); have n9_ := Aside0.mk ((by rw [hg]; exact Nat.ne_of_gt (blk_lt (g := gb967) (o := .cells #[.int .i64 x968000_3, .int .i64 x968001_3] 65 (0, 0)) (by (with_reducible repeat (first | refine blk_drewN ?_ _ | refine blk_drew ?_ | refine blk_alloc ?_ _)); exact BK967.out)) : gb983 ≠ gb967)); have n10_ := Aside0.mk ((by rw [hg]; exact Nat.ne_of_lt (blk_lt (g := gb982) (o := .cells #[.int .i64 0, .slice none 0 0] 131 (0, 0)) (by (with_reducible repeat (first | refine blk_drewN ?_ _ | refine blk_drew ?_ | refine blk_alloc ?_ _)); exact BK982.out)) : gb982 ≠ gb983)); have n11_ := Aside0.mk ((by rw [hg]; exact Nat.ne_of_gt (blk_lt (g := gb982) (o := .cells #[.int .i64 0, .slice none 0 0] 131 (0, 0)) (by (with_reducible repeat (first | refine blk_drewN ?_ _ | refine blk_drew ?_ | refine blk_alloc ?_ _)); exact BK982.out)) : gb983 ≠ gb982)); clear HO_5; clear HO977; clear BK967; clear BK982; clear HB; have HO_5 := n0_; have HO977 := n1_; have BK967 := n2_; have BK982 := n3_; have HB := n4_; have BK983 := n5_; have GW983 := n6_; have GE983 := n7_; have NB967_983 := n8_; have NB983_967 := n9_; have NB982_983 := n10_; have NB983_982 := n11_; clear n0_ n1_ n2_ n3_ n4_ n5_ n6_ n7_ n8_ n9_ n10_ n11_; clear hb hbox hg; have hnb82 := NB982_967.out; have hnc82 := NB967_982.out; have hnb83 := NB982_983.out; have hnc83 := NB983_982.out; have hcz84_0 : w81.cell? ⟨gb982, 0, none⟩ = some (.int .i64 0) := (blk_cell BK982.out 0).trans rfl; have hcz84_1 : w81.cell? ⟨gb982, 1, none⟩ = some (.slice none 0 0) := (blk_cell BK982.out 1).trans rfl; have hfz84_0 := blk_frozen BK982.out 0; have hfz84_1 := blk_frozen BK982.out 1; obtain ⟨Ao85, co85, eo85⟩ := Kd.R_slice HO977.out; subst eo85; have hnb86 := NB983_967.out; have hnc86 := NB967_983.out; have hcz87_0 : w81.cell? ⟨gb983, 0, none⟩ = some (.int .i64 0) := (blk_cell BK983.out 0).trans rfl; have hcz87_1 : w81.cell? ⟨gb983, 1, none⟩ = some (.int .i64 0) := (blk_cell BK983.out 1).trans rfl; have hfz87_0 := blk_frozen BK983.out 0; have hfz87_1 := blk_frozen BK983.out 1))
                        have n0_ : Aside0 (Kd.S k131 131 ((((w81.setCell ⟨gb982, 0, none⟩ (.int .i64 t974)).setCell ⟨gb982, 1, none⟩ (.slice Ao85 t975.length co85)).setCell ⟨gb983, 0, none⟩ (.int .i64 t979)).setCell ⟨gb983, 1, none⟩ (.int .i64 t980)) w.heap.size (fun k_ => some k_ ≠ (.slice Ao85 t975.length co85 : Value).ownBlock ∧ k_ ≠ gb982) (.slice Ao78 x5_3.length co78) x5_3) := ⟨by (with_reducible repeat (first | apply Kd.S_alloc | apply Kd.S_drewN | apply Kd.S_drew)); exact Kd.S_mono (Kd.S_far (p := ⟨gb983, 1, none⟩) (Kd.S_far (p := ⟨gb983, 0, none⟩) (Kd.S_far (p := ⟨gb982, 1, none⟩) (Kd.S_far (p := ⟨gb982, 0, none⟩) (Kd.S_types (Kd.S_mono HO_5.out (fun k_ hk => (⟨hk, hk.2⟩ : _ ∧ k_ ≠ gb982))) BK983.out (by decide)) (fun _ hk => hk.1.2) (.int .i64 t974)) (fun _ hk => hk.1.2) (.slice Ao85 t975.length co85)) (fun _ hk => hk.2) (.int .i64 t979)) (fun _ hk => hk.2) (.int .i64 t980)) (fun _ hk => ⟨hk.1.1.1.2, hk.1.1.2⟩)⟩
                        have n1_ : Aside0 (Kd.R (Kd.int .u8) 5 ((((w81.setCell ⟨gb982, 0, none⟩ (.int .i64 t974)).setCell ⟨gb982, 1, none⟩ (.slice Ao85 t975.length co85)).setCell ⟨gb983, 0, none⟩ (.int .i64 t979)).setCell ⟨gb983, 1, none⟩ (.int .i64 t980)) w.heap.size (fun _ => True) (.slice Ao85 t975.length co85) t975) := ⟨by (with_reducible repeat (first | apply Kd.R_alloc | apply Kd.R_drewN | apply Kd.R_drew)); exact Kd.R_mono (Kd.R_far (p := ⟨gb983, 1, none⟩) (Kd.R_far (p := ⟨gb983, 0, none⟩) (Kd.R_far (p := ⟨gb982, 1, none⟩) (Kd.R_far (p := ⟨gb982, 0, none⟩) (Kd.R_types (Kd.R_types HO977.out BK982.out (by decide)) BK983.out (by decide)) (fun _ hk => hk.1.2) (.int .i64 t974)) (fun _ hk => hk.1.2) (.slice Ao85 t975.length co85)) (fun _ hk => hk.2) (.int .i64 t979)) (fun _ hk => hk.2) (.int .i64 t980)) (fun _ hk => trivial)⟩
                        have n2_ : Aside0 (((((w81.setCell ⟨gb982, 0, none⟩ (.int .i64 t974)).setCell ⟨gb982, 1, none⟩ (.slice Ao85 t975.length co85)).setCell ⟨gb983, 0, none⟩ (.int .i64 t979)).setCell ⟨gb983, 1, none⟩ (.int .i64 t980)).heap[gb967]? = some (.cells #[.int .i64 x968000_3, .int .i64 x968001_3] 65 (0, 0))) := ⟨by (with_reducible repeat (first | refine blk_drewN ?_ _ | refine blk_drew ?_ | refine blk_alloc ?_ _)); refine blk_far ?_ NB967_983.out _; (with_reducible repeat (first | refine blk_drewN ?_ _ | refine blk_drew ?_ | refine blk_alloc ?_ _)); refine blk_far ?_ NB967_983.out _; (with_reducible repeat (first | refine blk_drewN ?_ _ | refine blk_drew ?_ | refine blk_alloc ?_ _)); refine blk_far ?_ NB967_982.out _; (with_reducible repeat (first | refine blk_drewN ?_ _ | refine blk_drew ?_ | refine blk_alloc ?_ _)); refine blk_far ?_ NB967_982.out _; (with_reducible repeat (first | refine blk_drewN ?_ _ | refine blk_drew ?_ | refine blk_alloc ?_ _)); exact BK967.out⟩
                        have n3_ : Aside0 (((((w81.setCell ⟨gb982, 0, none⟩ (.int .i64 t974)).setCell ⟨gb982, 1, none⟩ (.slice Ao85 t975.length co85)).setCell ⟨gb983, 0, none⟩ (.int .i64 t979)).setCell ⟨gb983, 1, none⟩ (.int .i64 t980)).heap[gb982]? = some (.cells #[.int .i64 t974, .slice Ao85 t975.length co85] 131 (0, 0))) := ⟨by (with_reducible repeat (first | refine blk_drewN ?_ _ | refine blk_drew ?_ | refine blk_alloc ?_ _)); refine blk_far ?_ NB982_983.out _; (with_reducible repeat (first | refine blk_drewN ?_ _ | refine blk_drew ?_ | refine blk_alloc ?_ _)); refine blk_far ?_ NB982_983.out _; (with_reducible repeat (first | refine blk_drewN ?_ _ | refine blk_drew ?_ | refine blk_alloc ?_ _)); refine blk_put (cs := #[.int .i64 t974, .slice none 0 0]) ?_ 1 _ rfl; (with_reducible repeat (first | refine blk_drewN ?_ _ | refine blk_drew ?_ | refine blk_alloc ?_ _)); refine blk_put (cs := #[.int .i64 0, .slice none 0 0]) ?_ 0 _ rfl; (with_reducible repeat (first | refine blk_drewN ?_ _ | refine blk_drew ?_ | refine blk_alloc ?_ _)); exact BK982.out⟩
                        have n4_ : Aside0 (((((w81.setCell ⟨gb982, 0, none⟩ (.int .i64 t974)).setCell ⟨gb982, 1, none⟩ (.slice Ao85 t975.length co85)).setCell ⟨gb983, 0, none⟩ (.int .i64 t979)).setCell ⟨gb983, 1, none⟩ (.int .i64 t980)).heap[gb983]? = some (.cells #[.int .i64 t979, .int .i64 t980] 65 (0, 0))) := ⟨by (with_reducible repeat (first | refine blk_drewN ?_ _ | refine blk_drew ?_ | refine blk_alloc ?_ _)); refine blk_put (cs := #[.int .i64 t979, .int .i64 0]) ?_ 1 _ rfl; (with_reducible repeat (first | refine blk_drewN ?_ _ | refine blk_drew ?_ | refine blk_alloc ?_ _)); refine blk_put (cs := #[.int .i64 0, .int .i64 0]) ?_ 0 _ rfl; (with_reducible repeat (first | refine blk_drewN ?_ _ | refine blk_drew ?_ | refine blk_alloc ?_ _)); refine blk_far ?_ NB983_982.out _; (with_reducible repeat (first | refine blk_drewN ?_ _ | refine blk_drew ?_ | refine blk_alloc ?_ _)); refine blk_far ?_ NB983_982.out _; (with_reducible repeat (first | refine blk_drewN ?_ _ | refine blk_drew ?_ | refine blk_alloc ?_ _)); exact BK983.out⟩
                        have n5_ : Aside0 (Below w.heap.size w ((((w81.setCell ⟨gb982, 0, none⟩ (.int .i64 t974)).setCell ⟨gb982, 1, none⟩ (.slice Ao85 t975.length co85)).setCell ⟨gb983, 0, none⟩ (.int .i64 t979)).setCell ⟨gb983, 1, none⟩ (.int .i64 t980))) := ⟨by repeat (first | (with_reducible first | exact HB.out | apply below_alloc | apply pw_below_drewN | apply below_drew1 | refine below_set ?_ GE967.out | refine below_set ?_ GE982.out | refine below_set ?_ GE983.out) | exact HB.out)⟩
                        (try clear HO_5)
                        (try clear HO977)
                        (try clear BK967)
                        (try clear BK982)
                        (try clear BK983)
                        (try clear HB)
                        generalize ((((w81.setCell ⟨gb982, 0, none⟩ (.int .i64 t974)).setCell ⟨gb982, 1, none⟩ (.slice Ao85 t975.length co85)).setCell ⟨gb983, 0, none⟩ (.int .i64 t979)).setCell ⟨gb983, 1, none⟩ (.int .i64 t980)) = w88 at n0_ n1_ n2_ n3_ n4_ n5_ ⊢
                        have HO_5 := n0_
                        have HO977 := n1_
                        have BK967 := n2_
                        have BK982 := n3_
                        have BK983 := n4_
                        have HB := n5_
                        clear n0_ n1_ n2_ n3_ n4_ n5_
                        have n0_ := Aside0.mk (Kd.S_drew HO_5.out)
                        have n1_ := Aside0.mk (Kd.R_drew HO977.out)
                        have n2_ := Aside0.mk (blk_drew BK967.out)
                        have n3_ := Aside0.mk (blk_drew BK982.out)
                        have n4_ := Aside0.mk (blk_drew BK983.out)
                        have n5_ := Aside0.mk (below_drew1 HB.out)
                        clear HO_5
                        clear HO977
                        clear BK967
                        clear BK982
                        clear BK983
                        clear HB
                        have HO_5 := n0_
                        have HO977 := n1_
                        have BK967 := n2_
                        have BK982 := n3_
                        have BK983 := n4_
                        have HB := n5_
                        clear n0_ n1_ n2_ n3_ n4_ n5_
                        refine start_ (n := 5) (S := fun w' => w'.cell? ⟨gb983, 0, none⟩ = some (.int .i64 t979) ∧ w'.cell? ⟨gb983, 1, none⟩ = some (.int .i64 t980)) (ds := []) #[false, false, false, false, false] (by kernel_rfl) rfl rfl ⟨(blk_cell BK983.out 0).trans rfl, (blk_cell BK983.out 1).trans rfl⟩ (fun hHeld => ?_)
                        generalize w88.drew = w89 at HO_5 HO977 BK967 BK982 BK983 HB hHeld ⊢
                        refine pure_ (i := 0) (N := some 71) (v := ?_) (a' := ?_) #[true, false, false, false, false] rfl rfl (by kernel_rfl) (fun _ _ _ h => h) (Or.inl ⟨by rfl, ?_⟩) ?_ ?_
                        rotate_left
                        · intro w'
                          go_simp
                          with_reducible rfl
                        rotate_left
                        · simp only [Act.put, List.setIfInBounds_toArray, List.set_cons_zero, List.set_cons_succ, i64_w, i32_w]
                          rfl
                        refine pure_ (i := 2) (N := some 2) (v := ?_) (a' := ?_) #[true, false, true, false, false] rfl rfl (by kernel_rfl) (fun _ _ _ h => h) (Or.inl ⟨by rfl, ?_⟩) ?_ ?_
                        rotate_left
                        · intro w'
                          go_simp
                          with_reducible rfl
                        rotate_left
                        · simp only [Act.put, List.setIfInBounds_toArray, List.set_cons_zero, List.set_cons_succ, i64_w, i32_w]
                          rfl
                        refine pure_ (i := 3) (N := some 3) (v := ?_) (a' := ?_) #[true, false, true, true, false] rfl rfl (by kernel_rfl) (fun _ _ _ h => h) (Or.inl ⟨by rfl, ?_⟩) ?_ ?_
                        rotate_left
                        · intro w'
                          go_simp
                          with_reducible rfl
                        rotate_left
                        · simp only [Act.put, List.setIfInBounds_toArray, List.set_cons_zero, List.set_cons_succ, i64_w, i32_w]
                          rfl
                        refine take_ (i := 1) (N := some 72) (v := ?_) (a' := ?_) #[true, true, true, true, false] rfl rfl (by kernel_rfl) (fun _ _ _ h => h) (Or.inl ⟨by rfl, ?_⟩) hHeld ?_ ?_
                        rotate_left
                        · rintro w' ⟨s0, s1⟩
                          go_simp
                          with_reducible rfl
                        rotate_left
                        · simp only [Act.put, List.setIfInBounds_toArray, List.set_cons_zero, List.set_cons_succ, i64_w, i32_w]
                          rfl
                        refine one_ (i := 4) (N := none) #[true, true, true, true, true] rfl rfl (by kernel_rfl) (by decide) (fun K hK => ?_)
                        have hs90 : w89.cell? ⟨gb967, 0, none⟩ = some (.int .i64 x968000_3) := (blk_cell BK967.out 0).trans rfl
                        have hfs90 := blk_frozen BK967.out 0
                        have hns90_1 := NB982_967.out
                        have hns90_2 := NB983_967.out
                        have hms90_1 := NB967_982.out
                        have hms90_2 := NB967_983.out
                        have hs91 : w89.cell? ⟨gb967, 1, none⟩ = some (.int .i64 x968001_3) := (blk_cell BK967.out 1).trans rfl
                        have hfs91 := blk_frozen BK967.out 1
                        have hns91_1 := NB982_967.out
                        have hns91_2 := NB983_967.out
                        have hms91_1 := NB967_982.out
                        have hms91_2 := NB967_983.out
                        refine skip_ (w1 := ?_) (by rfl) rfl ?_ ?_
                        rotate_left
                        · go_simp
                          rfl
                        refine hK.out _ _ ⟨((cell_far (p := ⟨gb967, _, none⟩) NB983_967.out _).trans (((cell_far (p := ⟨gb967, _, none⟩) NB983_967.out _).trans (hHeld.1)))), ((cell_far (p := ⟨gb967, _, none⟩) NB983_967.out _).trans (((cell_far (p := ⟨gb967, _, none⟩) NB983_967.out _).trans (hHeld.2))))⟩ (fun hHeld => ?_)
                        clear hK K
                        refine done_ (by kernel_rfl) ?_
                        try go_wp2
                        refine bodyPost_ret (results_list (rs := [.tmp 2, .tmp 3, .cell 4 65]) rfl (by simp) (.tmp (.tmp (.cell gb967 65 #[.int .i64 t979, .int .i64 t980] (0, 0) _ rfl (by (with_reducible repeat (first | refine blk_drewN ?_ _ | refine blk_drew ?_ | refine blk_alloc ?_ _)); refine blk_put (cs := #[.int .i64 t979, .int .i64 x968001_3]) ?_ 1 _ rfl; (with_reducible repeat (first | refine blk_drewN ?_ _ | refine blk_drew ?_ | refine blk_alloc ?_ _)); refine blk_put (cs := #[.int .i64 x968000_3, .int .i64 x968001_3]) ?_ 0 _ rfl; (with_reducible repeat (first | refine blk_drewN ?_ _ | refine blk_drew ?_ | refine blk_alloc ?_ _)); exact BK967.out) Try.underlying65 rfl (by kernel_rfl) .nil)))) rfl ?_
                        exact ⟨_, by first | rfl | (simp [errW_none, errW_some] <;> rfl) | (simp [*, errW_none, errW_some] <;> rfl), by (with_reducible repeat (first | apply Kd.S_alloc | apply Kd.S_drewN | apply Kd.S_drew)); exact Kd.S_mono (Kd.S_far (p := ⟨gb967, 1, none⟩) (Kd.S_far (p := ⟨gb967, 0, none⟩) (Kd.S_types HO_5.out BK967.out (by decide)) (fun _ hk => hk.2) (.int .i64 t979)) (fun _ hk => hk.2) (.int .i64 t980)) (fun _ hk => trivial), by repeat (first | (with_reducible first | exact HB.out | apply below_alloc | apply pw_below_drewN | apply below_drew1 | refine below_set ?_ GE967.out | refine below_set ?_ GE982.out | refine below_set ?_ GE983.out) | exact HB.out)⟩

theorem nxt_shape (b : List Int) (at_ : Nat) (l : List S131) (hl : l.length ≤ 300) (hb : ∀ x ∈ b, 0 ≤ x ∧ x ≤ 255) :
    (∃ c p, nxt b at_ l = (false, c, p, at_, l) ∧ c ≠ 0) ∨ nxt b at_ l = (true, 0, 0, at_ + 2, l) ∨
      (∃ m d n2, nxt b at_ l = (false, 0, 0, n2, l ++ [⟨m, d⟩]) ∧ 0 ≤ m ∧ m ≤ 247 ∧ l.length < 300 ∧ (m = 0 → b.drop n2 = [] ∨ ∃ t, b.drop n2 = 255 :: t)) := by
  have hm0' : 0 ≤ markM (b.drop at_) := by
    unfold markM
    split
    · exact Int.le_refl _
    · have e1 := rd_drop b at_ 1
      rw [show ((1 : Nat) : Int) = 1 from rfl] at e1
      rw [e1]
      by_cases h : at_ + 1 < b.length
      · rw [rd_nat b _ h]; exact (hb _ (List.getElem_mem h)).1
      · have : rd b ((at_ + 1 : Nat) : Int) = 0 := by unfold rd; rw [Int.toNat_natCast]; simp [List.getD, List.getElem?_eq_none (show b.length ≤ at_ + 1 by omega)]
        rw [this]; exact Int.le_refl _
  unfold nxt
  by_cases he : b.drop at_ = [] ∨ b.drop at_ = [255]
  · rw [if_pos he]; exact .inl ⟨3, _, rfl, by decide⟩
  rw [if_neg he]
  by_cases h254 : markM (b.drop at_) = 254
  · rw [if_pos h254]; exact .inr (.inl rfl)
  rw [if_neg h254]
  by_cases hbd : badM (markM (b.drop at_)) l = true
  · rw [if_pos hbd]; exact .inl ⟨4, _, rfl, by decide⟩
  rw [if_neg hbd]
  have h247 : markM (b.drop at_) ≤ 247 := by
    have : badM (markM (b.drop at_)) l = false := by simpa using hbd
    unfold badM at this
    simp at this
    omega
  by_cases h3 : l.length = 300
  · rw [if_pos h3]; exact .inl ⟨6, _, rfl, by decide⟩
  rw [if_neg h3]
  by_cases hm0 : markM (b.drop at_) = 0
  · rw [if_pos hm0]
    by_cases h20 : 20000 < (un (b.drop at_)).1.length
    · rw [if_pos h20]; exact .inl ⟨5, _, rfl, by decide⟩
    · rw [if_neg h20]
      refine .inr (.inr ⟨0, _, _, rfl, by decide, by decide, by omega, fun _ => ?_⟩)
      have := un_end (b.drop at_)
      rw [List.drop_drop] at this
      exact this
  rw [if_neg hm0]
  by_cases hi : isRest (markM (b.drop at_)) = true
  · rw [if_pos hi]; exact .inr (.inr ⟨_, _, _, rfl, hm0', h247, by omega, fun h => absurd h hm0⟩)
  rw [if_neg hi]
  by_cases h4 : (b.drop at_).length < 4
  · rw [if_pos h4]; exact .inl ⟨3, _, rfl, by decide⟩
  rw [if_neg h4]
  by_cases h20 : 20000 < lenM (b.drop at_)
  · rw [if_pos h20]; exact .inl ⟨5, _, rfl, by decide⟩
  rw [if_neg h20]
  by_cases h4n : ((b.drop at_).length : Int) < 4 + lenM (b.drop at_)
  · rw [if_pos h4n]; exact .inl ⟨3, _, rfl, by decide⟩
  rw [if_neg h4n]
  exact .inr (.inr ⟨_, _, _, rfl, hm0', h247, by omega, fun h => absurd h hm0⟩)
theorem kindL_snoc (l : List S131) (s : S131) : kindL (l ++ [s]) = kindM s.f0 := by unfold kindL; simp
theorem kindM_three {m : Int} (h : kindM m = 3) : m = 0 := by
  unfold kindM at h
  split at h
  · assumption
  · split at h
    · cases h
    · split at h <;> cases h
theorem marks_snoc {l : List S131} (h : MarksOk l) (m : Int) (d : List Int) (h0 : 0 ≤ m) (h1 : m ≤ 247) : MarksOk (l ++ [⟨m, d⟩]) := by
  intro s hs
  rcases List.mem_append.1 hs with hs | hs
  · exact h s hs
  · rw [List.mem_singleton.1 hs]; exact ⟨h0, h1⟩
theorem rest_three {l : List S131} (h : MarksOk l) (hr : mayRestM l = true) : kindL l = 3 := by
  rw [rest_kind h] at hr
  simpa [fitsM] using hr
theorem soFar_loop (b : List Int) (hb : ∀ x ∈ b, 0 ≤ x ∧ x ≤ 255) (hlen : b.length ≤ 60000) : ∀ (n at_ : Nat) (l : List S131), at_ ≤ b.length → l.length ≤ 300 → MarksOk l → b.length < at_ + n → ¬ (kindL l = 3 ∧ b.length - at_ < 2) →
    Ev (fun k => spec_SegsSoFar.l0 k b l (at_ : Int) (kindL l)) (sfI b n at_ l) := by
  intro n
  induction n with
  | zero => intro at_ l h1 _ _ h4; omega
  | succ n ih =>
    intro at_ l hat hl hM hfu hok
    obtain ⟨f1, f2, f3⟩ := nxt_facts b at_ l hat hl
    refine Ev.step (fun _ => by rw [spec_SegsSoFar.l0]) (Ev.bind (next_spec b at_ l hat hlen hb hM) ?_)
    unfold nxtS sfI
    rcases nxt_shape b at_ l hl hb with ⟨c, p, hn, hc⟩ | hn | ⟨m, d, n2, hn, hm0, hm1, hl3, hend⟩
    · rw [hn]
      simp only []
      rw [if_pos hc]
      by_cases h3 : c = 3
      · subst h3
        rw [if_pos rfl, if_neg (fun h => hok ⟨rest_three hM h.1, h.2⟩)]
        exact Ev.ip rfl (Ev.now _)
      · rw [if_neg h3, if_pos hc]
        exact Ev.ng h3 (Ev.ng hc (Ev.now _))
    · rw [hn] at f1 ⊢
      simp only [] at f1 ⊢
      rw [if_neg (by decide), if_pos trivial, if_neg (by decide), if_neg (by decide), if_pos trivial]
      refine Ev.ng (by show ¬ ((0 : Int) = 3); decide) (Ev.ip rfl (Ev.ip rfl ?_))
      refine Ev.step (fun _ => by rw [spec_SegsSoFar.j3]) ?_
      by_cases hlt : at_ + 2 < b.length
      · rw [if_pos hlt]
        exact Ev.ip (decide_eq_true (by simp only []; omega)) (Ev.now _)
      · rw [if_neg hlt]
        exact Ev.ng (by simp only [decide_eq_true_eq]; omega) (Ev.ip rfl (Ev.now _))
    · rw [hn] at f1 f2 f3 ⊢
      simp only [] at f1 f2 f3 ⊢
      have f4 := f3 trivial trivial
      rw [if_neg (by decide), if_neg (by decide), if_neg (by decide), if_neg (by decide), if_neg (by decide)]
      refine Ev.ng (by show ¬ ((0 : Int) = 3); decide) (Ev.ip rfl (Ev.ng (by show ¬ (false = true); decide) ?_))
      refine Ev.step (fun _ => by rw [spec_SegsSoFar.j3]) (Ev.ng (by show ¬ (false = true); decide) (Ev.ng (by simp) ?_))
      have hg : (l ++ [(⟨m, d⟩ : S131)]).getLastD z131 = ⟨m, d⟩ := by simp
      rw [hg]
      simp only []
      have hsn := kindL_snoc l ⟨m, d⟩
      have hMs := marks_snoc hM m d hm0 hm1
      by_cases hmz : m = 0
      · refine Ev.ip hmz ?_
        rw [wrap_succ n2 (by omega)]
        by_cases hge : b.length ≤ n2 + 1
        · refine Ev.ip (by omega) (Ev.eq (Ev.now _) ?_)
          have hr : b.drop n2 = [] ∨ b.drop n2 = [255] := by
            rcases hend hmz with h | ⟨t, h⟩
            · exact .inl h
            · refine .inr ?_
              have hl2 := congrArg List.length h
              simp at hl2
              have : t = [] := List.eq_nil_of_length_eq_zero (by omega)
              rw [h, this]
          cases n with
          | zero => omega
          | succ n =>
            have hx : nxt b n2 (l ++ [⟨m, d⟩]) = (false, 3, (b.length : Int), n2, l ++ [⟨m, d⟩]) := by unfold nxt; rw [if_pos hr]
            unfold sfI
            rw [hx]
            simp only []
            rw [if_pos trivial, if_pos ⟨by rw [rest_kind hMs, hsn, hmz]; rfl, by omega⟩]
            simp
        · refine Ev.ng (by omega) (Ev.ip (by omega) (Ev.bind (Ev.c (kind_val m)) ?_))
          rw [← hsn]
          exact ih n2 _ f1 f2 hMs (by omega) (fun h => by omega)
      · refine Ev.ng hmz (Ev.ip (by omega) (Ev.bind (Ev.c (kind_val m)) ?_))
        rw [← hsn]
        exact ih n2 _ f1 f2 hMs (by omega) (fun h => hmz (kindM_three (hsn ▸ h.1)))
theorem soFar_spec (b : List Int) (hb : ∀ x ∈ b, 0 ≤ x ∧ x ≤ 255) (hlen : b.length ≤ 1048576) : Ev (fun k => spec_SegsSoFar.f k b) (soFarM b) := by
  unfold spec_SegsSoFar.f soFarM
  refine Ev.bind (Ev.c rfl) ?_
  by_cases h1 : 60000 < b.length
  · rw [if_pos h1]; exact Ev.ip (by omega) (Ev.now _)
  rw [if_neg h1]
  refine Ev.ng (by omega) ?_
  by_cases h0 : b.length = 0
  · rw [if_pos (.inl h0)]
    exact Ev.ip (by omega) (Ev.step (fun _ => by rw [spec_SegsSoFar.j0]) (Ev.ip rfl (Ev.now _)))
  refine Ev.ng (by omega) ?_
  by_cases hl1 : b.length = 1
  · refine Ev.ip (by omega) (Ev.ip (by omega) (Ev.step (fun _ => by rw [spec_SegsSoFar.j0]) ?_))
    by_cases h84 : rd b 0 = 84
    · rw [if_pos (.inr ⟨hl1, h84⟩)]
      exact Ev.ip (by rw [h84]; rfl) (Ev.now _)
    · rw [if_neg (fun h => h.elim h0 (fun h => h84 h.2)), if_pos (.inl (by omega))]
      exact Ev.ng (by simpa using h84) (Ev.ip (by omega) (Ev.step (fun _ => by rw [spec_SegsSoFar.j1]) (Ev.ip rfl (Ev.now _))))
  · rw [if_neg (fun h => h.elim h0 (fun h => hl1 h.1))]
    refine Ev.ng (by omega) (Ev.step (fun _ => by rw [spec_SegsSoFar.j0]) (Ev.ng (by decide) (Ev.ng (by omega) (Ev.ip (by omega) ?_))))
    by_cases h84 : rd b 0 = 84
    · refine Ev.ip h84 (Ev.ip (by omega) (Ev.step (fun _ => by rw [spec_SegsSoFar.j1]) ?_))
      by_cases h83 : rd b 1 = 83
      · rw [if_neg (by rw [h84, h83]; simp; omega)]
        refine Ev.ng (by rw [h83]; decide) ?_
        have := soFar_loop b hb (by omega) (b.length + 1) 2 [] (by omega) (by simp) (fun s hs => by simp at hs) (by omega) (fun h => by simp [kindL] at h)
        exact this
      · rw [if_pos (.inr (.inr h83))]
        exact Ev.ip (by simp [h83]) (Ev.now _)
    · rw [if_pos (.inr (.inl h84))]
      exact Ev.ng h84 (Ev.step (fun _ => by rw [spec_SegsSoFar.j1]) (Ev.ip rfl (Ev.now _)))

end Go.Proofs.Ytcjjmfpkhhdmlaa.G
