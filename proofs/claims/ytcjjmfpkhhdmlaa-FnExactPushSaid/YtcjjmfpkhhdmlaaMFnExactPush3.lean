import Derived.BigRegion
import Derived.WalkSpells
import Derived.Test.YtcjjmfpkhhdmlaaMFnExactPush2
set_option linter.unusedVariables false
set_option linter.unusedSimpArgs false
namespace Go.Proofs.Ytcjjmfpkhhdmlaa.G
open Go.RowKit Go.Proofs.YtcjjmfpkhhdmlaaW.PrintWords Go.Proofs.YtcjjmfpkhhdmlaaW.PrintLast Go.Proofs.YtcjjmfpkhhdmlaaW.PrintMore
attribute [local go_sem] max2_int min2_int max_two min_two max_three min_three max_four min_four   -- for this text's walks alone
/-! ### spec_SegsSoFar: function 58 -/
mutual
def spec_SegsSoFar.j0 : Nat → List Int → List (S131) → Bool → Option ((List (S131)) × Bool × Int × Int)
 | 0, _, _, _ => none
 | k + 1, x0, x5, x31 => if x31 = true then (some (x5, false, 0, 0)) else (if (x0.length : Int) < 2 then (spec_SegsSoFar.j1 k x0 x5 true) else (if 0 < (x0.length : Int) then (if (rd x0 0) = 84 then (if 1 < (x0.length : Int) then (spec_SegsSoFar.j1 k x0 x5 ((rd x0 1) != 83)) else (none)) else (spec_SegsSoFar.j1 k x0 x5 true)) else (none)))
def spec_SegsSoFar.j1 : Nat → List Int → List (S131) → Bool → Option ((List (S131)) × Bool × Int × Int)
 | 0, _, _, _ => none
 | k + 1, x0, x5, x48 => if x48 = true then (some (x5, false, 2, 0)) else (spec_SegsSoFar.l0 k x0 x5 2 0)
def spec_SegsSoFar.l0 : Nat → List Int → List (S131) → Int → Int → Option ((List (S131)) × Bool × Int × Int)
 | 0, _, _, _, _ => none
 | k + 1, x0, x5, x6, x7 => (spec_l02Next.f k x0 x6 x7 ((x5.length : Int) == 300)).bind fun bt974 => (if bt974.2.2.2.1 = 3 then (some (x5, false, 0, 0)) else (if bt974.2.2.2.1 = 0 then (if bt974.2.2.2.2.2 = true then (spec_SegsSoFar.j3 k x0 x5 bt974.2.2.1 bt974.2.2.2.2.2 (decide (bt974.2.2.1 < (x0.length : Int))) bt974.1 bt974.2.1) else (spec_SegsSoFar.j3 k x0 x5 bt974.2.2.1 bt974.2.2.2.2.2 false bt974.1 bt974.2.1)) else (some (x5, false, bt974.2.2.2.1, bt974.2.2.2.2.1))))
def spec_SegsSoFar.j3 : Nat → List Int → List (S131) → Int → Bool → Bool → Int → List Int → Option ((List (S131)) × Bool × Int × Int)
 | 0, _, _, _, _, _, _, _ => none
 | k + 1, x0, x5, x9, x11, x79, x983000, x983001 => if x79 = true then (some (x5, true, 7, x9)) else (if x11 = true then (some (x5, true, 0, 0)) else (if x983000 = 0 then (if (wrap64 (x9 + 1)) ≥ (x0.length : Int) then (some (x5, false, 0, 0)) else (if x5.length < 4398046511104 then ((spec_l02Kind.f x983000).bind fun t987 => (spec_SegsSoFar.l0 k x0 (x5 ++ [(⟨x983000, x983001⟩ : S131)]) x9 t987)) else (none))) else (if x5.length < 4398046511104 then ((spec_l02Kind.f x983000).bind fun t991 => (spec_SegsSoFar.l0 k x0 (x5 ++ [(⟨x983000, x983001⟩ : S131)]) x9 t991)) else (none))))
end
def spec_SegsSoFar.f (k : Nat) (l0 : List Int) : Option ((List (S131)) × Bool × Int × Int) := (some (([] : List (S131)) : List (S131))).bind fun y968 => (if (l0.length : Int) > 60000 then (some (y968, false, 1, 0)) else (if (l0.length : Int) = 0 then (spec_SegsSoFar.j0 k l0 y968 true) else (if (l0.length : Int) = 1 then (if 0 < (l0.length : Int) then (spec_SegsSoFar.j0 k l0 y968 ((rd l0 0) == 84)) else (none)) else (spec_SegsSoFar.j0 k l0 y968 false))))
theorem spec_SegsSoFar.mono_l : ∀ k, (∀ y0 y1 y2, LeO (spec_SegsSoFar.j0 k y0 y1 y2) (spec_SegsSoFar.j0 (k + 1) y0 y1 y2)) ∧ (∀ y0 y1 y2, LeO (spec_SegsSoFar.j1 k y0 y1 y2) (spec_SegsSoFar.j1 (k + 1) y0 y1 y2)) ∧ (∀ y0 y1 y2 y3, LeO (spec_SegsSoFar.l0 k y0 y1 y2 y3) (spec_SegsSoFar.l0 (k + 1) y0 y1 y2 y3)) ∧ (∀ y0 y1 y2 y3 y4 y5 y6, LeO (spec_SegsSoFar.j3 k y0 y1 y2 y3 y4 y5 y6) (spec_SegsSoFar.j3 (k + 1) y0 y1 y2 y3 y4 y5 y6))
 | 0 => ⟨fun _ _ _ r h => by simp [spec_SegsSoFar.j0] at h, fun _ _ _ r h => by simp [spec_SegsSoFar.j1] at h, fun _ _ _ _ r h => by simp [spec_SegsSoFar.l0] at h, fun _ _ _ _ _ _ _ r h => by simp [spec_SegsSoFar.j3] at h⟩
 | k + 1 => by
  obtain ⟨ih0, ih1, ih2, ih3⟩ := spec_SegsSoFar.mono_l k
  refine ⟨?_, ?_, ?_, ?_⟩
  ·intro y0 y1 y2
   unfold spec_SegsSoFar.j0
   repeat' first
   | (with_reducible exact ih0 _ _ _)
   | (with_reducible exact ih1 _ _ _)
   | (with_reducible exact ih2 _ _ _ _)
   | (with_reducible exact ih3 _ _ _ _ _ _ _)
   | (with_reducible exact spec_l02Next.mono _ _ _ _ _)
   | (with_reducible exact LeO.refl _)
   | (with_reducible exact LeO.none _)
   | (with_reducible refine LeO.ite ?_ ?_)
   | (with_reducible refine LeO.bind ?_ (fun _ => ?_))
   | exact ih0 _ _ _
   | exact ih1 _ _ _
   | exact ih2 _ _ _ _
   | exact ih3 _ _ _ _ _ _ _
   | exact spec_l02Next.mono _ _ _ _ _
   | exact LeO.none _
   | refine LeO.ite ?_ ?_
   | refine LeO.bind ?_ (fun _ => ?_)
  ·intro y0 y1 y2
   unfold spec_SegsSoFar.j1
   repeat' first
   | (with_reducible exact ih0 _ _ _)
   | (with_reducible exact ih1 _ _ _)
   | (with_reducible exact ih2 _ _ _ _)
   | (with_reducible exact ih3 _ _ _ _ _ _ _)
   | (with_reducible exact spec_l02Next.mono _ _ _ _ _)
   | (with_reducible exact LeO.refl _)
   | (with_reducible exact LeO.none _)
   | (with_reducible refine LeO.ite ?_ ?_)
   | (with_reducible refine LeO.bind ?_ (fun _ => ?_))
   | exact ih0 _ _ _
   | exact ih1 _ _ _
   | exact ih2 _ _ _ _
   | exact ih3 _ _ _ _ _ _ _
   | exact spec_l02Next.mono _ _ _ _ _
   | exact LeO.none _
   | refine LeO.ite ?_ ?_
   | refine LeO.bind ?_ (fun _ => ?_)
  ·intro y0 y1 y2 y3
   unfold spec_SegsSoFar.l0
   repeat' first
   | (with_reducible exact ih0 _ _ _)
   | (with_reducible exact ih1 _ _ _)
   | (with_reducible exact ih2 _ _ _ _)
   | (with_reducible exact ih3 _ _ _ _ _ _ _)
   | (with_reducible exact spec_l02Next.mono _ _ _ _ _)
   | (with_reducible exact LeO.refl _)
   | (with_reducible exact LeO.none _)
   | (with_reducible refine LeO.ite ?_ ?_)
   | (with_reducible refine LeO.bind ?_ (fun _ => ?_))
   | exact ih0 _ _ _
   | exact ih1 _ _ _
   | exact ih2 _ _ _ _
   | exact ih3 _ _ _ _ _ _ _
   | exact spec_l02Next.mono _ _ _ _ _
   | exact LeO.none _
   | refine LeO.ite ?_ ?_
   | refine LeO.bind ?_ (fun _ => ?_)
  ·intro y0 y1 y2 y3 y4 y5 y6
   unfold spec_SegsSoFar.j3
   repeat' first
   | (with_reducible exact ih0 _ _ _)
   | (with_reducible exact ih1 _ _ _)
   | (with_reducible exact ih2 _ _ _ _)
   | (with_reducible exact ih3 _ _ _ _ _ _ _)
   | (with_reducible exact spec_l02Next.mono _ _ _ _ _)
   | (with_reducible exact LeO.refl _)
   | (with_reducible exact LeO.none _)
   | (with_reducible refine LeO.ite ?_ ?_)
   | (with_reducible refine LeO.bind ?_ (fun _ => ?_))
   | exact ih0 _ _ _
   | exact ih1 _ _ _
   | exact ih2 _ _ _ _
   | exact ih3 _ _ _ _ _ _ _
   | exact spec_l02Next.mono _ _ _ _ _
   | exact LeO.none _
   | refine LeO.ite ?_ ?_
   | refine LeO.bind ?_ (fun _ => ?_)
theorem spec_SegsSoFar.mono : ∀ a0 k, LeO (spec_SegsSoFar.f k a0) (spec_SegsSoFar.f (k + 1) a0) := by
 intro a0 k
 obtain ⟨ih0, ih1, ih2, ih3⟩ := spec_SegsSoFar.mono_l k
 unfold spec_SegsSoFar.f
 repeat' first
   | (with_reducible exact ih0 _ _ _)
   | (with_reducible exact ih1 _ _ _)
   | (with_reducible exact ih2 _ _ _ _)
   | (with_reducible exact ih3 _ _ _ _ _ _ _)
   | (with_reducible exact spec_l02Next.mono _ _ _ _ _)
   | (with_reducible exact LeO.refl _)
   | (with_reducible exact LeO.none _)
   | (with_reducible refine LeO.ite ?_ ?_)
   | (with_reducible refine LeO.bind ?_ (fun _ => ?_))
   | exact ih0 _ _ _
   | exact ih1 _ _ _
   | exact ih2 _ _ _ _
   | exact ih3 _ _ _ _ _ _ _
   | exact spec_l02Next.mono _ _ _ _ _
   | exact LeO.none _
   | refine LeO.ite ?_ ?_
   | refine LeO.bind ?_ (fun _ => ?_)
set_option maxHeartbeats 8000000 in
set_option maxRecDepth 100000 in
theorem spec_SegsSoFar.calls (k : Nat) (A0 : Option Addr) (c0 : Nat) (l0 : List Int) (r1 : List (S131)) (r2 : Bool) (r3 : Int) (r4 : Int) (w : World) (hr0 : Kd.C (Kd.int .u8) w A0 l0.length l0) (hc0 : l0.length ≤ c0) (h : spec_SegsSoFar.f k l0 = some (r1, r2, r3, r4)) :
  Calls Try.prog 58 #[.slice A0 l0.length c0] w fun e w' => ∃ v0_ : Value, e = .returned (.tuple #[v0_, .bool r2, .agg #[.int .i64 r3, .int .i64 r4]]) ∧ Kd.S k131 131 w' w.heap.size (fun _ => True) v0_ r1 ∧ Below w.heap.size w w' := by
 have hu65 := Try.underlying65
 have hu131 := Try.underlying131
 have HR0 := Aside0.mk hr0
 have HC0 := Aside0.mk hc0
 clear hr0 hc0
 have HB := Aside0.mk (Below.refl w.heap.size w)
 have H : ((some (([] : List (S131)) : List (S131))).bind fun y968 => (if (l0.length : Int) > 60000 then (some (y968, false, 1, 0)) else (if (l0.length : Int) = 0 then (spec_SegsSoFar.j0 k l0 y968 true) else (if (l0.length : Int) = 1 then (if 0 < (l0.length : Int) then (spec_SegsSoFar.j0 k l0 y968 ((rd l0 0) == 84)) else (none)) else (spec_SegsSoFar.j0 k l0 y968 false))))) = some (r1, r2, r3, r4) := h
 clear h
 obtain ⟨y968, hy968⟩ : ∃ y_ : List (S131), y_ = (([] : List (S131))) := ⟨_, rfl⟩
 replace H : (if (l0.length : Int) > 60000 then (some (y968, false, 1, 0)) else (if (l0.length : Int) = 0 then (spec_SegsSoFar.j0 k l0 y968 true) else (if (l0.length : Int) = 1 then (if 0 < (l0.length : Int) then (spec_SegsSoFar.j0 k l0 y968 ((rd l0 0) == 84)) else (none)) else (spec_SegsSoFar.j0 k l0 y968 false)))) = some (r1, r2, r3, r4) := by first | (rw [hy968]; with_reducible exact H) | (have H2_ := (Option.bind_some _ _).symm.trans H; rw [hy968]; with_reducible exact H2_) | (have H2_ := (Option.bind_some _ _).symm.trans H; with_reducible exact H2_) | with_reducible exact H | (rw [hy968]; exact H) | exact H
 have Ny968 := Aside0.mk hy968
 clear hy968
 by_cases c2 : (l0.length : Int) > 60000
 ·rw [if_pos c2] at H
  have c2b0 : decide (60000 < (l0.length : Int)) = true := decide_eq_true c2
  have c2b1 : decide (60000 < l0.length) = true := decide_eq_true (by omega)
  clear c2
  simp only [Option.some.injEq, Prod.mk.injEq] at H
  obtain ⟨rfl, rfl, rfl, rfl⟩ := H
  go_enter Try.func58, Try.ntmps58
  go_wp2_with (first | ((with_reducible refine gate_dst (N := 4) rfl ?_); (try (refine gate_guard (by rfl) ?_; dsimp only)); refine box_event ?hg (N := 4) ?hd (cs := #[.int .i64 0, .int .i64 0]) (t := 65) ?hr ?_; (case hd => rfl); (case hg => rfl); (case hr => first | (go_simp; done) | (go_simp; rfl)); intro gb967 hg w3 hbox hb; have n0_ := Aside0.mk (below_step (by repeat (first | (with_reducible first | exact HB.out | apply below_alloc | apply pw_below_drewN | apply below_drew1) | exact HB.out)) hb); have n1_ := Aside0.mk (hbox); have n2_ := Aside0.mk ((by rw [hg]; exact (below_size (by repeat (first | (with_reducible first | exact HB.out | apply below_alloc | apply pw_below_drewN | apply below_drew1) | exact HB.out))) : w.heap.size ≤ gb967)); have n3_ := Aside0.mk ((by rw [hg]; exact (below_size (by repeat (first | (with_reducible first | exact HB.out | apply below_alloc | apply pw_below_drewN | apply below_drew1) | exact HB.out))) : w.heap.size ≤ gb967)); clear HB; have HB := n0_; have BK967 := n1_; have GW967 := n2_; have GE967 := n3_; clear n0_ n1_ n2_ n3_; clear hb hbox hg) | ((with_reducible refine gate_dst (N := 12) rfl ?_); (try (refine gate_guard (by rfl) ?_; dsimp only)); refine Kd.S_lit k131 _ 131 ?hg (N := 12) ?hd (xs := ([] : List (S131))) (inner := []) (ok := fun _ => True) (okp := fun _ => True) ?hr ?hp (fun _ hk => hk) trivial (Below.refl _ _) (Nat.le_refl _) (by simp) ?_; (case hd => rfl); (case hg => rfl); (case hr => first | (go_simp; done) | (go_simp; rfl)); (case hp => exact (Reps.none _ _)); intro v969 w4 ho5 hb hg_ hnew_; clear hg_ hnew_; (first | rw [← Ny968.out] at ho5 | (simp only [Int.reduceToNat] at ho5; rw [← Ny968.out] at ho5)); have n0_ := Aside0.mk (Kd.S_lower ho5 (below_size (by repeat (first | (with_reducible first | exact HB.out | apply below_alloc | apply pw_below_drewN | apply below_drew1 | refine below_set ?_ GE967.out) | exact HB.out)))); have n1_ := Aside0.mk (blk_below (g := gb967) (o := .cells #[.int .i64 0, .int .i64 0] 65 (0, 0)) (by (with_reducible repeat (first | refine blk_drewN ?_ _ | refine blk_drew ?_ | refine blk_alloc ?_ _)); exact BK967.out) hb); have n2_ := Aside0.mk (below_step (by repeat (first | (with_reducible first | exact HB.out | apply below_alloc | apply pw_below_drewN | apply below_drew1 | refine below_set ?_ GE967.out) | exact HB.out)) hb); clear BK967; clear HB; have HO970 := n0_; have BK967 := n1_; have HB := n2_; clear n0_ n1_ n2_; clear hb ho5; have hcz6_0 : w4.cell? ⟨gb967, 0, none⟩ = some (.int .i64 0) := (blk_cell BK967.out 0).trans rfl; have hcz6_1 : w4.cell? ⟨gb967, 1, none⟩ = some (.int .i64 0) := (blk_cell BK967.out 1).trans rfl; have hfz6_0 := blk_frozen BK967.out 0; have hfz6_1 := blk_frozen BK967.out 1))
  refine bodyPost_ret (results_list (rs := [.tmp 2, .tmp 3, .cell 4 65]) rfl (by simp) (.tmp (.tmp (.cell gb967 65 #[.int .i64 1, .int .i64 0] (0, 0) _ rfl (by (with_reducible repeat (first | refine blk_drewN ?_ _ | refine blk_drew ?_ | refine blk_alloc ?_ _)); refine blk_put (cs := #[.int .i64 1, .int .i64 0]) ?_ 1 _ rfl; (with_reducible repeat (first | refine blk_drewN ?_ _ | refine blk_drew ?_ | refine blk_alloc ?_ _)); refine blk_put (cs := #[.int .i64 0, .int .i64 0]) ?_ 0 _ rfl; (with_reducible repeat (first | refine blk_drewN ?_ _ | refine blk_drew ?_ | refine blk_alloc ?_ _)); exact BK967.out) Try.underlying65 rfl (by kernel_rfl) .nil)))) rfl ?_
  exact ⟨_, by first | rfl | (simp [errW_none, errW_some] <;> rfl) | (simp [*, errW_none, errW_some] <;> rfl), by (with_reducible repeat (first | apply Kd.S_alloc | apply Kd.S_drewN | apply Kd.S_drew)); exact Kd.S_mono (Kd.S_far (p := ⟨gb967, 1, none⟩) (Kd.S_far (p := ⟨gb967, 0, none⟩) (Kd.S_types HO970.out BK967.out (by decide)) (fun _ hk => hk.2) (.int .i64 1)) (fun _ hk => hk.2) (.int .i64 0)) (fun _ hk => trivial), by repeat (first | (with_reducible first | exact HB.out | apply below_alloc | apply pw_below_drewN | apply below_drew1 | refine below_set ?_ GE967.out) | exact HB.out)⟩
 ·rw [if_neg c2] at H
  have c2b0 : decide (60000 < (l0.length : Int)) = false := decide_eq_false c2
  have c2b1 : decide (60000 < l0.length) = false := decide_eq_false (by omega)
  clear c2
  have HC7 := Aside0.mk H
  clear H
  go_enter Try.func58, Try.ntmps58
  go_upto_region 4 with (first | ((with_reducible refine gate_dst (N := 4) rfl ?_); (try (refine gate_guard (by rfl) ?_; dsimp only)); refine box_event ?hg (N := 4) ?hd (cs := #[.int .i64 0, .int .i64 0]) (t := 65) ?hr ?_; (case hd => rfl); (case hg => rfl); (case hr => first | (go_simp; done) | (go_simp; rfl)); intro gb967 hg w8 hbox hb; have n0_ := Aside0.mk (below_step (by repeat (first | (with_reducible first | exact HB.out | apply below_alloc | apply pw_below_drewN | apply below_drew1) | exact HB.out)) hb); have n1_ := Aside0.mk (hbox); have n2_ := Aside0.mk ((by rw [hg]; exact (below_size (by repeat (first | (with_reducible first | exact HB.out | apply below_alloc | apply pw_below_drewN | apply below_drew1) | exact HB.out))) : w.heap.size ≤ gb967)); have n3_ := Aside0.mk ((by rw [hg]; exact (below_size (by repeat (first | (with_reducible first | exact HB.out | apply below_alloc | apply pw_below_drewN | apply below_drew1) | exact HB.out))) : w.heap.size ≤ gb967)); clear HB; have HB := n0_; have BK967 := n1_; have GW967 := n2_; have GE967 := n3_; clear n0_ n1_ n2_ n3_; clear hb hbox hg) | ((with_reducible refine gate_dst (N := 12) rfl ?_); (try (refine gate_guard (by rfl) ?_; dsimp only)); refine Kd.S_lit k131 _ 131 ?hg (N := 12) ?hd (xs := ([] : List (S131))) (inner := []) (ok := fun _ => True) (okp := fun _ => True) ?hr ?hp (fun _ hk => hk) trivial (Below.refl _ _) (Nat.le_refl _) (by simp) ?_; (case hd => rfl); (case hg => rfl); (case hr => first | (go_simp; done) | (go_simp; rfl)); (case hp => exact (Reps.none _ _)); intro v969 w9 ho10 hb hg_ hnew_; clear hg_ hnew_; (first | rw [← Ny968.out] at ho10 | (simp only [Int.reduceToNat] at ho10; rw [← Ny968.out] at ho10)); have n0_ := Aside0.mk (Kd.S_lower ho10 (below_size (by repeat (first | (with_reducible first | exact HB.out | apply below_alloc | apply pw_below_drewN | apply below_drew1 | refine below_set ?_ GE967.out) | exact HB.out)))); have n1_ := Aside0.mk (blk_below (g := gb967) (o := .cells #[.int .i64 0, .int .i64 0] 65 (0, 0)) (by (with_reducible repeat (first | refine blk_drewN ?_ _ | refine blk_drew ?_ | refine blk_alloc ?_ _)); exact BK967.out) hb); have n2_ := Aside0.mk (below_step (by repeat (first | (with_reducible first | exact HB.out | apply below_alloc | apply pw_below_drewN | apply below_drew1 | refine below_set ?_ GE967.out) | exact HB.out)) hb); clear BK967; clear HB; have HO970 := n0_; have BK967 := n1_; have HB := n2_; clear n0_ n1_ n2_; clear hb ho10))
  (try simp only [Act.put, List.setIfInBounds_toArray, List.set_cons_zero, List.set_cons_succ])
  go_cut [31] (fun v31 wc => ∃ (kq : Nat) (x31_6 : Bool), v31 = .bool x31_6 ∧ Aside0 (spec_SegsSoFar.j0 kq l0 y968 x31_6 = some (r1, r2, r3, r4)) ∧ Aside0 (kq ≤ k) ∧ Aside0 (Kd.S k131 131 wc w.heap.size (fun _ => True) v969 y968) ∧ Aside0 (wc.heap[gb967]? = some (.cells #[.int .i64 0, .int .i64 0] 65 (0, 0))) ∧ Aside0 (Below w.heap.size w wc))
  case first =>
   have H := HC7.out
   clear HC7
   by_cases c11 : (l0.length : Int) = 0
   ·rw [if_pos c11] at H
    have c11b0 : ((l0.length : Int) == 0) = true := beq_iff_eq.mpr c11
    have c11b1 : ((l0.length : Int) != 0) = false := bne_eq_false_iff_eq.mpr c11
    clear c11
    (first | rw [c11b0] | (simp only [i64_w, i32_w]; rw [c11b0]) | skip)
    have H' := Aside0.mk H
    clear H
    go_wp2
    go_meet
    case rel => exact ⟨_, (true), (by first | rfl | (simp; done) | (simp [*]; done)), H', ⟨by first | omega | exact Nat.le_refl _⟩, ⟨by (with_reducible repeat (first | apply Kd.S_alloc | apply Kd.S_drewN | apply Kd.S_drew)); exact HO970.out⟩, ⟨by (with_reducible repeat (first | refine blk_drewN ?_ _ | refine blk_drew ?_ | refine blk_alloc ?_ _)); exact BK967.out⟩, ⟨by repeat (first | (with_reducible first | exact HB.out | apply below_alloc | apply pw_below_drewN | apply below_drew1 | refine below_set ?_ GE967.out) | exact HB.out)⟩⟩
   ·rw [if_neg c11] at H
    have c11b0 : ((l0.length : Int) == 0) = false := beq_eq_false_iff_ne.mpr c11
    have c11b1 : ((l0.length : Int) != 0) = true := bne_iff_ne.mpr c11
    have c11b2 : ¬ (l0 = []) := fun h_ => c11 (by rw [h_]; rfl)
    (first | rw [c11b0] | (simp only [i64_w, i32_w]; rw [c11b0]) | skip)
    by_cases c12 : (l0.length : Int) = 1
    ·rw [if_pos c12] at H
     have c12b0 : ((l0.length : Int) == 1) = true := beq_iff_eq.mpr c12
     have c12b1 : ((l0.length : Int) != 1) = false := bne_eq_false_iff_eq.mpr c12
     clear c12
     by_cases c13 : 0 < (l0.length : Int)
     ·rw [if_pos c13] at H
      have c13b0 : decide (0 < (l0.length : Int)) = true := decide_eq_true c13
      have c13b1 : decide (0 < l0.length) = true := decide_eq_true (by omega)
      clear c13
      have H' := Aside0.mk H
      clear H
      have p971 : 0 ≤ (0 : Int) := (by omega)
      have q971 : 0 < (l0.length : Int) := of_decide_eq_true (by first | (with_reducible assumption) | assumption)
      obtain ⟨ad971, e971, hx971_0⟩ := Kd.at_int HR0.out 0 p971 q971
      cases e971
      have qi971 : (0 < l0.length) = True := eq_true (by omega)
      (try rw [show ((0 : Int)).toNat = 0 from rfl] at hx971_0)
      (try rw [Addr.add_zero'] at hx971_0)
      replace hx971_0 := (HB.out.cell (World.block_lt_of_cell? w _ hx971_0)).trans hx971_0
      replace p971 := eq_true p971
      replace q971 := eq_true q971
      go_wp2
      go_meet
      case rel => exact ⟨_, (((rd l0 0) == 84)), (by first | rfl | (simp; done) | (simp [*]; done)), H', ⟨by first | omega | exact Nat.le_refl _⟩, ⟨by (with_reducible repeat (first | apply Kd.S_alloc | apply Kd.S_drewN | apply Kd.S_drew)); exact HO970.out⟩, ⟨by (with_reducible repeat (first | refine blk_drewN ?_ _ | refine blk_drew ?_ | refine blk_alloc ?_ _)); exact BK967.out⟩, ⟨by repeat (first | (with_reducible first | exact HB.out | apply below_alloc | apply pw_below_drewN | apply below_drew1 | refine below_set ?_ GE967.out) | exact HB.out)⟩⟩
     ·rw [if_neg c13] at H
      exact absurd H (by simp)
    ·rw [if_neg c12] at H
     have c12b0 : ((l0.length : Int) == 1) = false := beq_eq_false_iff_ne.mpr c12
     have c12b1 : ((l0.length : Int) != 1) = true := bne_iff_ne.mpr c12
     have H' := Aside0.mk H
     clear H
     go_wp2
     go_meet
     case rel => exact ⟨_, (false), (by first | rfl | (simp; done) | (simp [*]; done)), H', ⟨by first | omega | exact Nat.le_refl _⟩, ⟨by (with_reducible repeat (first | apply Kd.S_alloc | apply Kd.S_drewN | apply Kd.S_drew)); exact HO970.out⟩, ⟨by (with_reducible repeat (first | refine blk_drewN ?_ _ | refine blk_drew ?_ | refine blk_alloc ?_ _)); exact BK967.out⟩, ⟨by repeat (first | (with_reducible first | exact HB.out | apply below_alloc | apply pw_below_drewN | apply below_drew1 | refine below_set ?_ GE967.out) | exact HB.out)⟩⟩
  case rest =>
   clear HC7
   try clear c1
   try clear c2
   try clear c2b0
   try clear c2b1
   try clear p2
   try clear c5
   try clear p9
   try clear q9
   try clear hx9
   try clear qi9
   try clear c11
   try clear c11b0
   try clear c11b1
   try clear c11b2
   try clear c12
   try clear c12b0
   try clear c12b1
   try clear c13
   try clear c13b0
   try clear c13b1
   try clear hcz6_0
   try clear hcz6_1
   try clear hfz6_0
   try clear hfz6_1
   try clear hx971_0
   try clear p971
   try clear q971
   obtain ⟨kq, x31_6, rfl, HA, HJ6, HO_5, BK967, HB⟩ := hcut
   cases kq with
   | zero => exact absurd HA.out (by simp [spec_SegsSoFar.j0])
   | succ kj6 =>
    have H := HA.out
    clear HA
    simp only [spec_SegsSoFar.j0] at H
    by_cases c14 : x31_6 = true
    ·subst c14
     have H1 : (some (y968, false, 0, 0)) = some (r1, r2, r3, r4) := by rw [if_pos rfl] at H; exact H
     clear H
     have H := H1
     clear H1
     simp only [Option.some.injEq, Prod.mk.injEq] at H
     obtain ⟨rfl, rfl, rfl, rfl⟩ := H
     have hcz15_0 : wc.cell? ⟨gb967, 0, none⟩ = some (.int .i64 0) := (blk_cell BK967.out 0).trans rfl
     have hcz15_1 : wc.cell? ⟨gb967, 1, none⟩ = some (.int .i64 0) := (blk_cell BK967.out 1).trans rfl
     have hfz15_0 := blk_frozen BK967.out 0
     have hfz15_1 := blk_frozen BK967.out 1
     go_wp2
     refine bodyPost_ret (results_list (rs := [.tmp 2, .tmp 3, .cell 4 65]) rfl (by simp) (.tmp (.tmp (.cell gb967 65 #[.int .i64 0, .int .i64 0] (0, 0) _ rfl (by (with_reducible repeat (first | refine blk_drewN ?_ _ | refine blk_drew ?_ | refine blk_alloc ?_ _)); refine blk_put (cs := #[.int .i64 0, .int .i64 0]) ?_ 1 _ rfl; (with_reducible repeat (first | refine blk_drewN ?_ _ | refine blk_drew ?_ | refine blk_alloc ?_ _)); refine blk_put (cs := #[.int .i64 0, .int .i64 0]) ?_ 0 _ rfl; (with_reducible repeat (first | refine blk_drewN ?_ _ | refine blk_drew ?_ | refine blk_alloc ?_ _)); exact BK967.out) Try.underlying65 rfl (by kernel_rfl) .nil)))) rfl ?_
     exact ⟨_, by first | rfl | (simp [errW_none, errW_some] <;> rfl) | (simp [*, errW_none, errW_some] <;> rfl), by (with_reducible repeat (first | apply Kd.S_alloc | apply Kd.S_drewN | apply Kd.S_drew)); exact Kd.S_mono (Kd.S_far (p := ⟨gb967, 1, none⟩) (Kd.S_far (p := ⟨gb967, 0, none⟩) (Kd.S_types HO_5.out BK967.out (by decide)) (fun _ hk => hk.2) (.int .i64 0)) (fun _ hk => hk.2) (.int .i64 0)) (fun _ hk => trivial), by repeat (first | (with_reducible first | exact HB.out | apply below_alloc | apply pw_below_drewN | apply below_drew1 | refine below_set ?_ GE967.out) | exact HB.out)⟩
    ·replace c14 := Bool.eq_false_iff.mpr c14
     subst c14
     have H1 : (if (l0.length : Int) < 2 then (spec_SegsSoFar.j1 kj6 l0 y968 true) else (if 0 < (l0.length : Int) then (if (rd l0 0) = 84 then (if 1 < (l0.length : Int) then (spec_SegsSoFar.j1 kj6 l0 y968 ((rd l0 1) != 83)) else (none)) else (spec_SegsSoFar.j1 kj6 l0 y968 true)) else (none))) = some (r1, r2, r3, r4) := by rw [if_neg (show ¬ (false = true) by decide)] at H; exact H
     clear H
     have H := H1
     clear H1
     have HC16 := Aside0.mk H
     clear H
     go_upto_region 6 with (fail)
     go_cut [48] (fun v48 wc => ∃ (kq : Nat) (x48_15 : Bool), v48 = .bool x48_15 ∧ Aside0 (spec_SegsSoFar.j1 kq l0 y968 x48_15 = some (r1, r2, r3, r4)) ∧ Aside0 (kq ≤ kj6) ∧ Aside0 (Kd.S k131 131 wc w.heap.size (fun _ => True) v969 y968) ∧ Aside0 (wc.heap[gb967]? = some (.cells #[.int .i64 0, .int .i64 0] 65 (0, 0))) ∧ Aside0 (Below w.heap.size w wc))
     case first =>
      have H := HC16.out
      clear HC16
      by_cases c17 : (l0.length : Int) < 2
      ·rw [if_pos c17] at H
       have c17b0 : decide ((l0.length : Int) < 2) = true := decide_eq_true c17
       have c17b1 : decide (l0.length < 2) = true := decide_eq_true (by omega)
       clear c17
       (first | rw [c17b0] | (simp only [i64_w, i32_w]; rw [c17b0]) | skip)
       have H' := Aside0.mk H
       clear H
       go_wp2
       go_meet
       case rel => exact ⟨_, (true), (by first | rfl | (simp; done) | (simp [*]; done)), H', ⟨by have := HJ6.out; first | omega | exact Nat.le_refl _⟩, ⟨by (with_reducible repeat (first | apply Kd.S_alloc | apply Kd.S_drewN | apply Kd.S_drew)); exact HO_5.out⟩, ⟨by (with_reducible repeat (first | refine blk_drewN ?_ _ | refine blk_drew ?_ | refine blk_alloc ?_ _)); exact BK967.out⟩, ⟨by repeat (first | (with_reducible first | exact HB.out | apply below_alloc | apply pw_below_drewN | apply below_drew1 | refine below_set ?_ GE967.out) | exact HB.out)⟩⟩
      ·rw [if_neg c17] at H
       have c17b0 : decide ((l0.length : Int) < 2) = false := decide_eq_false c17
       have c17b1 : decide (l0.length < 2) = false := decide_eq_false (by omega)
       clear c17
       (first | rw [c17b0] | (simp only [i64_w, i32_w]; rw [c17b0]) | skip)
       by_cases c18 : 0 < (l0.length : Int)
       ·rw [if_pos c18] at H
        have c18b0 : decide (0 < (l0.length : Int)) = true := decide_eq_true c18
        have c18b1 : decide (0 < l0.length) = true := decide_eq_true (by omega)
        clear c18
        by_cases c19 : (rd l0 0) = 84
        ·rw [if_pos c19] at H
         have c19b0 : ((rd l0 0) == 84) = true := beq_iff_eq.mpr c19
         have c19b1 : ((rd l0 0) != 84) = false := bne_eq_false_iff_eq.mpr c19
         clear c19
         by_cases c20 : 1 < (l0.length : Int)
         ·rw [if_pos c20] at H
          have c20b0 : decide (1 < (l0.length : Int)) = true := decide_eq_true c20
          have c20b1 : decide (1 < l0.length) = true := decide_eq_true (by omega)
          clear c20
          have H' := Aside0.mk H
          clear H
          have p972 : 0 ≤ (0 : Int) := (by omega)
          have q972 : 0 < (l0.length : Int) := of_decide_eq_true (by first | (with_reducible assumption) | assumption)
          obtain ⟨ad972, e972, hx972_0⟩ := Kd.at_int HR0.out 0 p972 q972
          cases e972
          have qi972 : (0 < l0.length) = True := eq_true (by omega)
          (try rw [show ((0 : Int)).toNat = 0 from rfl] at hx972_0)
          (try rw [Addr.add_zero'] at hx972_0)
          replace hx972_0 := (HB.out.cell (World.block_lt_of_cell? w _ hx972_0)).trans hx972_0
          replace p972 := eq_true p972
          replace q972 := eq_true q972
          have p973 : 0 ≤ (1 : Int) := (by omega)
          have q973 : 1 < (l0.length : Int) := of_decide_eq_true (by first | (with_reducible assumption) | assumption)
          obtain ⟨ad973, e973, hx973_0⟩ := Kd.at_int HR0.out 1 p973 q973
          obtain rfl : ad972 = ad973 := (by injection e973)
          (try simp only [show (1 : Int).toNat = 1 from rfl, Nat.reduceMul, Nat.reduceEqDiff, Go.Addr.add, ↓reduceIte] at hx973_0)
          have qi973 : (1 < l0.length) = True := eq_true (by omega)
          (try rw [show ((1 : Int)).toNat = 1 from rfl] at hx973_0)
          replace hx973_0 := (HB.out.cell (World.block_lt_of_cell? w _ hx973_0)).trans hx973_0
          replace p973 := eq_true p973
          replace q973 := eq_true q973
          go_wp2
          go_meet
          case rel => exact ⟨_, (((rd l0 1) != 83)), (by first | rfl | (simp; done) | (simp [*]; done)), H', ⟨by have := HJ6.out; first | omega | exact Nat.le_refl _⟩, ⟨by (with_reducible repeat (first | apply Kd.S_alloc | apply Kd.S_drewN | apply Kd.S_drew)); exact HO_5.out⟩, ⟨by (with_reducible repeat (first | refine blk_drewN ?_ _ | refine blk_drew ?_ | refine blk_alloc ?_ _)); exact BK967.out⟩, ⟨by repeat (first | (with_reducible first | exact HB.out | apply below_alloc | apply pw_below_drewN | apply below_drew1 | refine below_set ?_ GE967.out) | exact HB.out)⟩⟩
         ·rw [if_neg c20] at H
          exact absurd H (by simp)
        ·rw [if_neg c19] at H
         have c19b0 : ((rd l0 0) == 84) = false := beq_eq_false_iff_ne.mpr c19
         have c19b1 : ((rd l0 0) != 84) = true := bne_iff_ne.mpr c19
         have H' := Aside0.mk H
         clear H
         have p972 : 0 ≤ (0 : Int) := (by omega)
         have q972 : 0 < (l0.length : Int) := of_decide_eq_true (by first | (with_reducible assumption) | assumption)
         obtain ⟨ad972, e972, hx972_0⟩ := Kd.at_int HR0.out 0 p972 q972
         cases e972
         have qi972 : (0 < l0.length) = True := eq_true (by omega)
         (try rw [show ((0 : Int)).toNat = 0 from rfl] at hx972_0)
         (try rw [Addr.add_zero'] at hx972_0)
         replace hx972_0 := (HB.out.cell (World.block_lt_of_cell? w _ hx972_0)).trans hx972_0
         replace p972 := eq_true p972
         replace q972 := eq_true q972
         go_wp2
         go_meet
         case rel => exact ⟨_, (true), (by first | rfl | (simp; done) | (simp [*]; done)), H', ⟨by have := HJ6.out; first | omega | exact Nat.le_refl _⟩, ⟨by (with_reducible repeat (first | apply Kd.S_alloc | apply Kd.S_drewN | apply Kd.S_drew)); exact HO_5.out⟩, ⟨by (with_reducible repeat (first | refine blk_drewN ?_ _ | refine blk_drew ?_ | refine blk_alloc ?_ _)); exact BK967.out⟩, ⟨by repeat (first | (with_reducible first | exact HB.out | apply below_alloc | apply pw_below_drewN | apply below_drew1 | refine below_set ?_ GE967.out) | exact HB.out)⟩⟩
       ·rw [if_neg c18] at H
        exact absurd H (by simp)
     case rest =>
      clear HC16
      try clear c1
      try clear c2
      try clear c2b0
      try clear c2b1
      try clear p2
      try clear c5
      try clear p9
      try clear q9
      try clear hx9
      try clear qi9
      try clear c11
      try clear c11b0
      try clear c11b1
      try clear c11b2
      try clear c12
      try clear c12b0
      try clear c12b1
      try clear c13
      try clear c13b0
      try clear c13b1
      try clear c14
      try clear c17
      try clear c17b0
      try clear c17b1
      try clear c18
      try clear c18b0
      try clear c18b1
      try clear c19
      try clear c19b0
      try clear c19b1
      try clear c20
      try clear c20b0
      try clear c20b1
      try clear hcz15_0
      try clear hcz15_1
      try clear hcz6_0
      try clear hcz6_1
      try clear hfz15_0
      try clear hfz15_1
      try clear hfz6_0
      try clear hfz6_1
      try clear hx971_0
      try clear hx972_0
      try clear hx973_0
      try clear p2
      try clear p9
      try clear p971
      try clear p972
      try clear p973
      try clear q9
      try clear q971
      try clear q972
      try clear q973
      obtain ⟨kq, x48_15, rfl, HA, HJ15, HO_5, BK967, HB⟩ := hcut
      cases kq with
      | zero => exact absurd HA.out (by simp [spec_SegsSoFar.j1])
      | succ kj15 =>
       have H := HA.out
       clear HA
       simp only [spec_SegsSoFar.j1] at H
       by_cases c21 : x48_15 = true
       ·subst c21
        have H1 : (some (y968, false, 2, 0)) = some (r1, r2, r3, r4) := by rw [if_pos rfl] at H; exact H
        clear H
        have H := H1
        clear H1
        simp only [Option.some.injEq, Prod.mk.injEq] at H
        obtain ⟨rfl, rfl, rfl, rfl⟩ := H
        have hcz22_0 : wc.cell? ⟨gb967, 0, none⟩ = some (.int .i64 0) := (blk_cell BK967.out 0).trans rfl
        have hcz22_1 : wc.cell? ⟨gb967, 1, none⟩ = some (.int .i64 0) := (blk_cell BK967.out 1).trans rfl
        have hfz22_0 := blk_frozen BK967.out 0
        have hfz22_1 := blk_frozen BK967.out 1
        go_wp2
        refine bodyPost_ret (results_list (rs := [.tmp 2, .tmp 3, .cell 4 65]) rfl (by simp) (.tmp (.tmp (.cell gb967 65 #[.int .i64 2, .int .i64 0] (0, 0) _ rfl (by (with_reducible repeat (first | refine blk_drewN ?_ _ | refine blk_drew ?_ | refine blk_alloc ?_ _)); refine blk_put (cs := #[.int .i64 2, .int .i64 0]) ?_ 1 _ rfl; (with_reducible repeat (first | refine blk_drewN ?_ _ | refine blk_drew ?_ | refine blk_alloc ?_ _)); refine blk_put (cs := #[.int .i64 0, .int .i64 0]) ?_ 0 _ rfl; (with_reducible repeat (first | refine blk_drewN ?_ _ | refine blk_drew ?_ | refine blk_alloc ?_ _)); exact BK967.out) Try.underlying65 rfl (by kernel_rfl) .nil)))) rfl ?_
        exact ⟨_, by first | rfl | (simp [errW_none, errW_some] <;> rfl) | (simp [*, errW_none, errW_some] <;> rfl), by (with_reducible repeat (first | apply Kd.S_alloc | apply Kd.S_drewN | apply Kd.S_drew)); exact Kd.S_mono (Kd.S_far (p := ⟨gb967, 1, none⟩) (Kd.S_far (p := ⟨gb967, 0, none⟩) (Kd.S_types HO_5.out BK967.out (by decide)) (fun _ hk => hk.2) (.int .i64 2)) (fun _ hk => hk.2) (.int .i64 0)) (fun _ hk => trivial), by repeat (first | (with_reducible first | exact HB.out | apply below_alloc | apply pw_below_drewN | apply below_drew1 | refine below_set ?_ GE967.out) | exact HB.out)⟩
       ·replace c21 := Bool.eq_false_iff.mpr c21
        subst c21
        have H1 : (spec_SegsSoFar.l0 kj15 l0 y968 2 0) = some (r1, r2, r3, r4) := by rw [if_neg (show ¬ (false = true) by decide)] at H; exact H
        clear H
        have H := H1
        clear H1
        have H' := Aside0.mk H
        clear H
        go_wp2
        go_loopg [5, 6, 7] kj15 (fun kq v5 v6 v7 w' => ∃ (x5_3 : List (S131)) (x6_3 : Int) (x7_3 : Int) (x968000_3 : Int) (x968001_3 : Int), v6 = .int .i64 x6_3 ∧ v7 = .int .i64 x7_3 ∧ Aside0 (spec_SegsSoFar.l0 kq l0 x5_3 x6_3 x7_3 = some (r1, r2, r3, r4)) ∧ Aside0 (kq ≤ kj15) ∧ Aside0 (Kd.S k131 131 w' w.heap.size (fun _ => True) v5 x5_3) ∧ Aside0 (w'.heap[gb967]? = some (.cells #[.int .i64 x968000_3, .int .i64 x968001_3] 65 (0, 0))) ∧ Aside0 (Below w.heap.size w w'))
        case atStart => exact ⟨(y968), (2), (0), (0), (0), (by first | rfl | (simp; done) | (simp [*]; done)), (by first | rfl | (simp; done) | (simp [*]; done)), H', ⟨Nat.le_refl _⟩, ⟨by (with_reducible repeat (first | apply Kd.S_alloc | apply Kd.S_drewN | apply Kd.S_drew)); exact HO_5.out⟩, ⟨by (with_reducible repeat (first | refine blk_drewN ?_ _ | refine blk_drew ?_ | refine blk_alloc ?_ _)); exact BK967.out⟩, ⟨by repeat (first | (with_reducible first | exact HB.out | apply below_alloc | apply pw_below_drewN | apply below_drew1 | refine below_set ?_ GE967.out) | exact HB.out)⟩⟩
        case round =>
         clear H'
         try clear c1
         try clear c2
         try clear c2b0
         try clear c2b1
         try clear p2
         try clear c5
         try clear p9
         try clear q9
         try clear hx9
         try clear qi9
         try clear c11
         try clear c11b0
         try clear c11b1
         try clear c11b2
         try clear c12
         try clear c12b0
         try clear c12b1
         try clear c13
         try clear c13b0
         try clear c13b1
         try clear c14
         try clear c17
         try clear c17b0
         try clear c17b1
         try clear c18
         try clear c18b0
         try clear c18b1
         try clear c19
         try clear c19b0
         try clear c19b1
         try clear c20
         try clear c20b0
         try clear c20b1
         try clear c21
         try clear hcz15_0
         try clear hcz15_1
         try clear hcz22_0
         try clear hcz22_1
         try clear hcz6_0
         try clear hcz6_1
         try clear hfz15_0
         try clear hfz15_1
         try clear hfz22_0
         try clear hfz22_1
         try clear hfz6_0
         try clear hfz6_1
         try clear hx971_0
         try clear hx972_0
         try clear hx973_0
         try clear p2
         try clear p9
         try clear p971
         try clear p972
         try clear p973
         try clear q9
         try clear q971
         try clear q972
         try clear q973
         obtain ⟨x5_3, x6_3, x7_3, x968000_3, x968001_3, rfl, rfl, HA, HK3, HO_5, BK967, HB⟩ := hrel
         cases gk with
         | zero => exact absurd HA.out (by simp [spec_SegsSoFar.l0])
         | succ k3 =>
          have H := HA.out
          clear HA
          simp only [spec_SegsSoFar.l0] at H
          replace H := Option.bind_eq_some_iff.mp H
          obtain ⟨⟨t974, t975, t978, t979, t980, t981⟩, A230, H⟩ := H
          replace H : (if t979 = 3 then (some (x5_3, false, 0, 0)) else (if t979 = 0 then (if t981 = true then (spec_SegsSoFar.j3 k3 l0 x5_3 t978 t981 (decide (t978 < (l0.length : Int))) t974 t975) else (spec_SegsSoFar.j3 k3 l0 x5_3 t978 t981 false t974 t975)) else (some (x5_3, false, t979, t980)))) = some (r1, r2, r3, r4) := H
          have A23 := Aside0.mk A230
          clear A230
          by_cases c24 : t979 = 3
          ·rw [if_pos c24] at H
           have c24b0 : (t979 == 3) = true := beq_iff_eq.mpr c24
           have c24b1 : (t979 != 3) = false := bne_eq_false_iff_eq.mpr c24
           clear c24
           simp only [Option.some.injEq, Prod.mk.injEq] at H
           obtain ⟨rfl, rfl, rfl, rfl⟩ := H
           obtain ⟨Ao25, co25, eo25⟩ := Kd.S_slice HO_5.out
           subst eo25
           go_wp2_with (first | ((with_reducible refine gate_callee (f := 131) rfl ?_); refine goesL_ (some 58) rfl rfl Try.func131 (by kernel_rfl) rfl #[.slice A0 l0.length c0, .int .i64 x6_3, .int .i64 x7_3, .bool ((x5_3.length : Int) == 300)] rfl (by (try simp only [List.map_toArray, List.map_cons, List.map_nil]); first | done | rfl | (simp only [List.length_drop, List.length_take]; rfl)) ?_; (with_reducible refine (spec_l02Next.calls k3 _ _ l0 x6_3 x7_3 ((x5_3.length : Int) == 300) t974 t975 t978 t979 t980 t981 _ ?side1 ?side2 A23.out).mono ?_); (case side1 => repeat (first | exact (Kd.C_below HR0.out HB.out) | (with_reducible refine Kd.C_alloc ?_ _) | (with_reducible refine Kd.C_drewN ?_ _) | (with_reducible refine Kd.C_drew ?_))); (case side2 => exact HC0.out); rintro e w26 ⟨v976, rfl, ho0, hb⟩; refine ⟨_, rfl, ?_⟩; have n0_ := Aside0.mk (Kd.S_elder' (by (with_reducible repeat (first | apply Kd.S_alloc | apply Kd.S_drewN | apply Kd.S_drew)); exact HO_5.out) (Kd.R_base ho0) hb); have n1_ := Aside0.mk (Kd.R_lower ho0 (below_size (by repeat (first | (with_reducible first | exact HB.out | apply below_alloc | apply pw_below_drewN | apply below_drew1 | refine below_set ?_ GE967.out) | exact HB.out)))); have n2_ := Aside0.mk (blk_below (g := gb967) (o := .cells #[.int .i64 x968000_3, .int .i64 x968001_3] 65 (0, 0)) (by (with_reducible repeat (first | refine blk_drewN ?_ _ | refine blk_drew ?_ | refine blk_alloc ?_ _)); exact BK967.out) hb); have n3_ := Aside0.mk (below_step (by repeat (first | (with_reducible first | exact HB.out | apply below_alloc | apply pw_below_drewN | apply below_drew1 | refine below_set ?_ GE967.out) | exact HB.out)) hb); clear HO_5; clear BK967; clear HB; have HO_5 := n0_; have HO977 := n1_; have BK967 := n2_; have HB := n3_; clear n0_ n1_ n2_ n3_; (try clear hb); (try clear hb2); (try clear hk); (try clear hi); (try clear ho0)) | ((with_reducible refine gate_dst (N := 8) rfl ?_); (try (refine gate_guard (by rfl) ?_; dsimp only)); refine box_event ?hg (N := 8) ?hd (cs := #[.int .i64 0, .slice none 0 0]) (t := 131) ?hr ?_; (case hd => rfl); (case hg => rfl); (case hr => first | (go_simp; done) | (go_simp; rfl)); intro gb982 hg w27 hbox hb; have n0_ := Aside0.mk (Kd.S_below (Kd.S_elderB (by (with_reducible repeat (first | apply Kd.S_alloc | apply Kd.S_drewN | apply Kd.S_drew)); exact HO_5.out) gb982 (Nat.le_of_eq hg.symm)) hb); have n1_ := Aside0.mk (Kd.R_below (by (with_reducible repeat (first | apply Kd.R_alloc | apply Kd.R_drewN | apply Kd.R_drew)); exact HO977.out) hb); have n2_ := Aside0.mk (blk_below (g := gb967) (o := .cells #[.int .i64 x968000_3, .int .i64 x968001_3] 65 (0, 0)) (by (with_reducible repeat (first | refine blk_drewN ?_ _ | refine blk_drew ?_ | refine blk_alloc ?_ _)); exact BK967.out) hb); have n3_ := Aside0.mk (below_step (by repeat (first | (with_reducible first | exact HB.out | apply below_alloc | apply pw_below_drewN | apply below_drew1 | refine below_set ?_ GE967.out) | exact HB.out)) hb); have n4_ := Aside0.mk (hbox); have n5_ := Aside0.mk ((by rw [hg]; exact (below_size (by repeat (first | (with_reducible first | exact HB.out | apply below_alloc | apply pw_below_drewN | apply below_drew1 | refine below_set ?_ GE967.out) | exact HB.out))) : w.heap.size ≤ gb982)); have n6_ := Aside0.mk ((by rw [hg]; exact (below_size (by repeat (first | (with_reducible first | exact HB.out | apply below_alloc | apply pw_below_drewN | apply below_drew1 | refine below_set ?_ GE967.out) | exact HB.out))) : w.heap.size ≤ gb982)); have n7_ := Aside0.mk ((by rw [hg]; exact Nat.ne_of_lt (blk_lt (g := gb967) (o := .cells #[.int .i64 x968000_3, .int .i64 x968001_3] 65 (0, 0)) (by (with_reducible repeat (first | refine blk_drewN ?_ _ | refine blk_drew ?_ | refine blk_alloc ?_ _)); exact BK967.out)) : gb967 ≠ gb982)); have n8_ := Aside0.mk ((by rw [hg]; exact Nat.ne_of_gt (blk_lt (g := gb967) (o := .cells #[.int .i64 x968000_3, .int .i64 x968001_3] 65 (0, 0)) (by (with_reducible repeat (first | refine blk_drewN ?_ _ | refine blk_drew ?_ | refine blk_alloc ?_ _)); exact BK967.out)) : gb982 ≠ gb967)); clear HO_5; clear HO977; clear BK967; clear HB; have HO_5 := n0_; have HO977 := n1_; have BK967 := n2_; have HB := n3_; have BK982 := n4_; have GW982 := n5_; have GE982 := n6_; have NB967_982 := n7_; have NB982_967 := n8_; clear n0_ n1_ n2_ n3_ n4_ n5_ n6_ n7_ n8_; clear hb hbox hg) | ((with_reducible refine gate_dst (N := 10) rfl ?_); (try (refine gate_guard (by rfl) ?_; dsimp only)); refine box_event ?hg (N := 10) ?hd (cs := #[.int .i64 0, .int .i64 0]) (t := 65) ?hr ?_; (case hd => rfl); (case hg => rfl); (case hr => first | (go_simp; done) | (go_simp; rfl)); intro gb983 hg w28 hbox hb; have n0_ := Aside0.mk (Kd.S_below (by (with_reducible repeat (first | apply Kd.S_alloc | apply Kd.S_drewN | apply Kd.S_drew)); exact HO_5.out) hb); have n1_ := Aside0.mk (Kd.R_below (by (with_reducible repeat (first | apply Kd.R_alloc | apply Kd.R_drewN | apply Kd.R_drew)); exact HO977.out) hb); have n2_ := Aside0.mk (blk_below (g := gb967) (o := .cells #[.int .i64 x968000_3, .int .i64 x968001_3] 65 (0, 0)) (by (with_reducible repeat (first | refine blk_drewN ?_ _ | refine blk_drew ?_ | refine blk_alloc ?_ _)); exact BK967.out) hb); have n3_ := Aside0.mk (blk_below (g := gb982) (o := .cells #[.int .i64 0, .slice none 0 0] 131 (0, 0)) (by (with_reducible repeat (first | refine blk_drewN ?_ _ | refine blk_drew ?_ | refine blk_alloc ?_ _)); exact BK982.out) hb); have n4_ := Aside0.mk (below_step (by repeat (first | (with_reducible first | exact HB.out | apply below_alloc | apply pw_below_drewN | apply below_drew1 | refine below_set ?_ GE967.out | refine below_set ?_ GE982.out) | exact HB.out)) hb); have n5_ := Aside0.mk (hbox); have n6_ := Aside0.mk ((by rw [hg]; exact (below_size (by repeat (first | (with_reducible first | exact HB.out | apply below_alloc | apply pw_below_drewN | apply below_drew1 | refine below_set ?_ GE967.out | refine below_set ?_ GE982.out) | exact HB.out))) : w.heap.size ≤ gb983)); have n7_ := Aside0.mk ((by rw [hg]; exact (below_size (by repeat (first | (with_reducible first | exact HB.out | apply below_alloc | apply pw_below_drewN | apply below_drew1 | refine below_set ?_ GE967.out | refine below_set ?_ GE982.out) | exact HB.out))) : w.heap.size ≤ gb983)); have n8_ := Aside0.mk ((by rw [hg]; exact Nat.ne_of_lt (blk_lt (g := gb967) (o := .cells #[.int .i64 x968000_3, .int .i64 x968001_3] 65 (0, 0)) (by (with_reducible repeat (first | refine blk_drewN ?_ _ | refine blk_drew ?_ | refine blk_alloc ?_ _)); exact BK967.out)) : gb967 ≠ gb983)); have n9_ := Aside0.mk ((by rw [hg]; exact Nat.ne_of_gt (blk_lt (g := gb967) (o := .cells #[.int .i64 x968000_3, .int .i64 x968001_3] 65 (0, 0)) (by (with_reducible repeat (first | refine blk_drewN ?_ _ | refine blk_drew ?_ | refine blk_alloc ?_ _)); exact BK967.out)) : gb983 ≠ gb967)); have n10_ := Aside0.mk ((by rw [hg]; exact Nat.ne_of_lt (blk_lt (g := gb982) (o := .cells #[.int .i64 0, .slice none 0 0] 131 (0, 0)) (by (with_reducible repeat (first | refine blk_drewN ?_ _ | refine blk_drew ?_ | refine blk_alloc ?_ _)); exact BK982.out)) : gb982 ≠ gb983)); have n11_ := Aside0.mk ((by rw [hg]; exact Nat.ne_of_gt (blk_lt (g := gb982) (o := .cells #[.int .i64 0, .slice none 0 0] 131 (0, 0)) (by (with_reducible repeat (first | refine blk_drewN ?_ _ | refine blk_drew ?_ | refine blk_alloc ?_ _)); exact BK982.out)) : gb983 ≠ gb982)); clear HO_5; clear HO977; clear BK967; clear BK982; clear HB; have HO_5 := n0_; have HO977 := n1_; have BK967 := n2_; have BK982 := n3_; have HB := n4_; have BK983 := n5_; have GW983 := n6_; have GE983 := n7_; have NB967_983 := n8_; have NB983_967 := n9_; have NB982_983 := n10_; have NB983_982 := n11_; clear n0_ n1_ n2_ n3_ n4_ n5_ n6_ n7_ n8_ n9_ n10_ n11_; clear hb hbox hg; have hnb29 := NB982_967.out; have hnc29 := NB967_982.out; have hnb30 := NB982_983.out; have hnc30 := NB983_982.out; have hcz31_0 : w28.cell? ⟨gb982, 0, none⟩ = some (.int .i64 0) := (blk_cell BK982.out 0).trans rfl; have hcz31_1 : w28.cell? ⟨gb982, 1, none⟩ = some (.slice none 0 0) := (blk_cell BK982.out 1).trans rfl; have hfz31_0 := blk_frozen BK982.out 0; have hfz31_1 := blk_frozen BK982.out 1; obtain ⟨Ao32, co32, eo32⟩ := Kd.R_slice HO977.out; subst eo32; have hnb33 := NB983_967.out; have hnc33 := NB967_983.out; have hcz34_0 : w28.cell? ⟨gb983, 0, none⟩ = some (.int .i64 0) := (blk_cell BK983.out 0).trans rfl; have hcz34_1 : w28.cell? ⟨gb983, 1, none⟩ = some (.int .i64 0) := (blk_cell BK983.out 1).trans rfl; have hfz34_0 := blk_frozen BK983.out 0; have hfz34_1 := blk_frozen BK983.out 1; have hcz35_0 : w28.cell? ⟨gb967, 0, none⟩ = some (.int .i64 x968000_3) := (blk_cell BK967.out 0).trans rfl; have hcz35_1 : w28.cell? ⟨gb967, 1, none⟩ = some (.int .i64 x968001_3) := (blk_cell BK967.out 1).trans rfl; have hfz35_0 := blk_frozen BK967.out 0; have hfz35_1 := blk_frozen BK967.out 1))
           refine bodyPost_ret (results_list (rs := [.tmp 2, .tmp 3, .cell 4 65]) rfl (by simp) (.tmp (.tmp (.cell gb967 65 #[.int .i64 0, .int .i64 0] (0, 0) _ rfl (by (with_reducible repeat (first | refine blk_drewN ?_ _ | refine blk_drew ?_ | refine blk_alloc ?_ _)); refine blk_put (cs := #[.int .i64 0, .int .i64 x968001_3]) ?_ 1 _ rfl; (with_reducible repeat (first | refine blk_drewN ?_ _ | refine blk_drew ?_ | refine blk_alloc ?_ _)); refine blk_put (cs := #[.int .i64 x968000_3, .int .i64 x968001_3]) ?_ 0 _ rfl; (with_reducible repeat (first | refine blk_drewN ?_ _ | refine blk_drew ?_ | refine blk_alloc ?_ _)); refine blk_far ?_ NB967_983.out _; (with_reducible repeat (first | refine blk_drewN ?_ _ | refine blk_drew ?_ | refine blk_alloc ?_ _)); refine blk_far ?_ NB967_983.out _; (with_reducible repeat (first | refine blk_drewN ?_ _ | refine blk_drew ?_ | refine blk_alloc ?_ _)); refine blk_far ?_ NB967_982.out _; (with_reducible repeat (first | refine blk_drewN ?_ _ | refine blk_drew ?_ | refine blk_alloc ?_ _)); refine blk_far ?_ NB967_982.out _; (with_reducible repeat (first | refine blk_drewN ?_ _ | refine blk_drew ?_ | refine blk_alloc ?_ _)); exact BK967.out) Try.underlying65 rfl (by kernel_rfl) .nil)))) rfl ?_
           exact ⟨_, by first | rfl | (simp [errW_none, errW_some] <;> rfl) | (simp [*, errW_none, errW_some] <;> rfl), by (with_reducible repeat (first | apply Kd.S_alloc | apply Kd.S_drewN | apply Kd.S_drew)); exact Kd.S_mono (Kd.S_far (p := ⟨gb967, 1, none⟩) (Kd.S_far (p := ⟨gb967, 0, none⟩) (Kd.S_far (p := ⟨gb983, 1, none⟩) (Kd.S_far (p := ⟨gb983, 0, none⟩) (Kd.S_far (p := ⟨gb982, 1, none⟩) (Kd.S_far (p := ⟨gb982, 0, none⟩) (Kd.S_types (Kd.S_types (Kd.S_mono HO_5.out (fun k_ hk => (⟨hk, hk.2⟩ : _ ∧ k_ ≠ gb982))) BK983.out (by decide)) BK967.out (by decide)) (fun _ hk => hk.1.1.2) (.int .i64 t974)) (fun _ hk => hk.1.1.2) (.slice Ao32 t975.length co32)) (fun _ hk => hk.1.2) (.int .i64 t979)) (fun _ hk => hk.1.2) (.int .i64 t980)) (fun _ hk => hk.2) (.int .i64 0)) (fun _ hk => hk.2) (.int .i64 0)) (fun _ hk => trivial), by repeat (first | (with_reducible first | exact HB.out | apply below_alloc | apply pw_below_drewN | apply below_drew1 | refine below_set ?_ GE967.out | refine below_set ?_ GE982.out | refine below_set ?_ GE983.out) | exact HB.out)⟩
          ·rw [if_neg c24] at H
           have c24b0 : (t979 == 3) = false := beq_eq_false_iff_ne.mpr c24
           have c24b1 : (t979 != 3) = true := bne_iff_ne.mpr c24
           by_cases c36 : t979 = 0
           ·rw [if_pos c36] at H
            have c36b0 : (t979 == 0) = true := beq_iff_eq.mpr c36
            have c36b1 : (t979 != 0) = false := bne_eq_false_iff_eq.mpr c36
            clear c36
            have HC37 := Aside0.mk H
            clear H
            obtain ⟨Ao38, co38, eo38⟩ := Kd.S_slice HO_5.out
            subst eo38
            go_upto_region 15 with (first | ((with_reducible refine gate_callee (f := 131) rfl ?_); refine goesL_ (some 58) rfl rfl Try.func131 (by kernel_rfl) rfl #[.slice A0 l0.length c0, .int .i64 x6_3, .int .i64 x7_3, .bool ((x5_3.length : Int) == 300)] rfl (by (try simp only [List.map_toArray, List.map_cons, List.map_nil]); first | done | rfl | (simp only [List.length_drop, List.length_take]; rfl)) ?_; (with_reducible refine (spec_l02Next.calls k3 _ _ l0 x6_3 x7_3 ((x5_3.length : Int) == 300) t974 t975 t978 t979 t980 t981 _ ?side1 ?side2 A23.out).mono ?_); (case side1 => repeat (first | exact (Kd.C_below HR0.out HB.out) | (with_reducible refine Kd.C_alloc ?_ _) | (with_reducible refine Kd.C_drewN ?_ _) | (with_reducible refine Kd.C_drew ?_))); (case side2 => exact HC0.out); rintro e w39 ⟨v976, rfl, ho0, hb⟩; refine ⟨_, rfl, ?_⟩; have n0_ := Aside0.mk (Kd.S_elder' (by (with_reducible repeat (first | apply Kd.S_alloc | apply Kd.S_drewN | apply Kd.S_drew)); exact HO_5.out) (Kd.R_base ho0) hb); have n1_ := Aside0.mk (Kd.R_lower ho0 (below_size (by repeat (first | (with_reducible first | exact HB.out | apply below_alloc | apply pw_below_drewN | apply below_drew1 | refine below_set ?_ GE967.out) | exact HB.out)))); have n2_ := Aside0.mk (blk_below (g := gb967) (o := .cells #[.int .i64 x968000_3, .int .i64 x968001_3] 65 (0, 0)) (by (with_reducible repeat (first | refine blk_drewN ?_ _ | refine blk_drew ?_ | refine blk_alloc ?_ _)); exact BK967.out) hb); have n3_ := Aside0.mk (below_step (by repeat (first | (with_reducible first | exact HB.out | apply below_alloc | apply pw_below_drewN | apply below_drew1 | refine below_set ?_ GE967.out) | exact HB.out)) hb); clear HO_5; clear BK967; clear HB; have HO_5 := n0_; have HO977 := n1_; have BK967 := n2_; have HB := n3_; clear n0_ n1_ n2_ n3_; (try clear hb); (try clear hb2); (try clear hk); (try clear hi); (try clear ho0)) | ((with_reducible refine gate_dst (N := 8) rfl ?_); (try (refine gate_guard (by rfl) ?_; dsimp only)); refine box_event ?hg (N := 8) ?hd (cs := #[.int .i64 0, .slice none 0 0]) (t := 131) ?hr ?_; (case hd => rfl); (case hg => rfl); (case hr => first | (go_simp; done) | (go_simp; rfl)); intro gb982 hg w40 hbox hb; have n0_ := Aside0.mk (Kd.S_below (Kd.S_elderB (by (with_reducible repeat (first | apply Kd.S_alloc | apply Kd.S_drewN | apply Kd.S_drew)); exact HO_5.out) gb982 (Nat.le_of_eq hg.symm)) hb); have n1_ := Aside0.mk (Kd.R_below (by (with_reducible repeat (first | apply Kd.R_alloc | apply Kd.R_drewN | apply Kd.R_drew)); exact HO977.out) hb); have n2_ := Aside0.mk (blk_below (g := gb967) (o := .cells #[.int .i64 x968000_3, .int .i64 x968001_3] 65 (0, 0)) (by (with_reducible repeat (first | refine blk_drewN ?_ _ | refine blk_drew ?_ | refine blk_alloc ?_ _)); exact BK967.out) hb); have n3_ := Aside0.mk (below_step (by repeat (first | (with_reducible first | exact HB.out | apply below_alloc | apply pw_below_drewN | apply below_drew1 | refine below_set ?_ GE967.out) | exact HB.out)) hb); have n4_ := Aside0.mk (hbox); have n5_ := Aside0.mk ((by rw [hg]; exact (below_size (by repeat (first | (with_reducible first | exact HB.out | apply below_alloc | apply pw_below_drewN | apply below_drew1 | refine below_set ?_ GE967.out) | exact HB.out))) : w.heap.size ≤ gb982)); have n6_ := Aside0.mk ((by rw [hg]; exact (below_size (by repeat (first | (with_reducible first | exact HB.out | apply below_alloc | apply pw_below_drewN | apply below_drew1 | refine below_set ?_ GE967.out) | exact HB.out))) : w.heap.size ≤ gb982)); have n7_ := Aside0.mk ((by rw [hg]; exact Nat.ne_of_lt (blk_lt (g := gb967) (o := .cells #[.int .i64 x968000_3, .int .i64 x968001_3] 65 (0, 0)) (by (with_reducible repeat (first | refine blk_drewN ?_ _ | refine blk_drew ?_ | refine blk_alloc ?_ _)); exact BK967.out)) : gb967 ≠ gb982)); have n8_ := Aside0.mk ((by rw [hg]; exact Nat.ne_of_gt (blk_lt (g := gb967) (o := .cells #[.int .i64 x968000_3, .int .i64 x968001_3] 65 (0, 0)) (by (with_reducible repeat (first | refine blk_drewN ?_ _ | refine blk_drew ?_ | refine blk_alloc ?_ _)); exact BK967.out)) : gb982 ≠ gb967)); clear HO_5; clear HO977; clear BK967; clear HB; have HO_5 := n0_; have HO977 := n1_; have BK967 := n2_; have HB := n3_; have BK982 := n4_; have GW982 := n5_; have GE982 := n6_; have NB967_982 := n7_; have NB982_967 := n8_; clear n0_ n1_ n2_ n3_ n4_ n5_ n6_ n7_ n8_; clear hb hbox hg) | ((with_reducible refine gate_dst (N := 10) rfl ?_); (try (refine gate_guard (by rfl) ?_; dsimp only)); refine box_event ?hg (N := 10) ?hd (cs := #[.int .i64 0, .int .i64 0]) (t := 65) ?hr ?_; (case hd => rfl); (case hg => rfl); (case hr => first | (go_simp; done) | (go_simp; rfl)); intro gb983 hg w41 hbox hb; have n0_ := Aside0.mk (Kd.S_below (by (with_reducible repeat (first | apply Kd.S_alloc | apply Kd.S_drewN | apply Kd.S_drew)); exact HO_5.out) hb); have n1_ := Aside0.mk (Kd.R_below (by (with_reducible repeat (first | apply Kd.R_alloc | apply Kd.R_drewN | apply Kd.R_drew)); exact HO977.out) hb); have n2_ := Aside0.mk (blk_below (g := gb967) (o := .cells #[.int .i64 x968000_3, .int .i64 x968001_3] 65 (0, 0)) (by (with_reducible repeat (first | refine blk_drewN ?_ _ | refine blk_drew ?_ | refine blk_alloc ?_ _)); exact BK967.out) hb); have n3_ := Aside0.mk (blk_below (g := gb982) (o := .cells #[.int .i64 0, .slice none 0 0] 131 (0, 0)) (by (with_reducible repeat (first | refine blk_drewN ?_ _ | refine blk_drew ?_ | refine blk_alloc ?_ _)); exact BK982.out) hb); have n4_ := Aside0.mk (below_step (by repeat (first | (with_reducible first | exact HB.out | apply below_alloc | apply pw_below_drewN | apply below_drew1 | refine below_set ?_ GE967.out | refine below_set ?_ GE982.out) | exact HB.out)) hb); have n5_ := Aside0.mk (hbox); have n6_ := Aside0.mk ((by rw [hg]; exact (below_size (by repeat (first | (with_reducible first | exact HB.out | apply below_alloc | apply pw_below_drewN | apply below_drew1 | refine below_set ?_ GE967.out | refine below_set ?_ GE982.out) | exact HB.out))) : w.heap.size ≤ gb983)); have n7_ := Aside0.mk ((by rw [hg]; exact (below_size (by repeat (first | (with_reducible first | exact HB.out | apply below_alloc | apply pw_below_drewN | apply below_drew1 | refine below_set ?_ GE967.out | refine below_set ?_ GE982.out) | exact HB.out))) : w.heap.size ≤ gb983)); have n8_ := Aside0.mk ((by rw [hg]; exact Nat.ne_of_lt (blk_lt (g := gb967) (o := .cells #[.int .i64 x968000_3, .int .i64 x968001_3] 65 (0, 0)) (by (with_reducible repeat (first | refine blk_drewN ?_ _ | refine blk_drew ?_ | refine blk_alloc ?_ _)); exact BK967.out)) : gb967 ≠ gb983)); have n9_ := Aside0.mk ((by rw [hg]; exact Nat.ne_of_gt (blk_lt (g := gb967) (o := .cells #[.int .i64 x968000_3, .int .i64 x968001_3] 65 (0, 0)) (by (with_reducible repeat (first | refine blk_drewN ?_ _ | refine blk_drew ?_ | refine blk_alloc ?_ _)); exact BK967.out)) : gb983 ≠ gb967)); have n10_ := Aside0.mk ((by rw [hg]; exact Nat.ne_of_lt (blk_lt (g := gb982) (o := .cells #[.int .i64 0, .slice none 0 0] 131 (0, 0)) (by (with_reducible repeat (first | refine blk_drewN ?_ _ | refine blk_drew ?_ | refine blk_alloc ?_ _)); exact BK982.out)) : gb982 ≠ gb983)); have n11_ := Aside0.mk ((by rw [hg]; exact Nat.ne_of_gt (blk_lt (g := gb982) (o := .cells #[.int .i64 0, .slice none 0 0] 131 (0, 0)) (by (with_reducible repeat (first | refine blk_drewN ?_ _ | refine blk_drew ?_ | refine blk_alloc ?_ _)); exact BK982.out)) : gb983 ≠ gb982)); clear HO_5; clear HO977; clear BK967; clear BK982; clear HB; have HO_5 := n0_; have HO977 := n1_; have BK967 := n2_; have BK982 := n3_; have HB := n4_; have BK983 := n5_; have GW983 := n6_; have GE983 := n7_; have NB967_983 := n8_; have NB983_967 := n9_; have NB982_983 := n10_; have NB983_982 := n11_; clear n0_ n1_ n2_ n3_ n4_ n5_ n6_ n7_ n8_ n9_ n10_ n11_; clear hb hbox hg; have hnb42 := NB982_967.out; have hnc42 := NB967_982.out; have hnb43 := NB982_983.out; have hnc43 := NB983_982.out; have hcz44_0 : w41.cell? ⟨gb982, 0, none⟩ = some (.int .i64 0) := (blk_cell BK982.out 0).trans rfl; have hcz44_1 : w41.cell? ⟨gb982, 1, none⟩ = some (.slice none 0 0) := (blk_cell BK982.out 1).trans rfl; have hfz44_0 := blk_frozen BK982.out 0; have hfz44_1 := blk_frozen BK982.out 1; obtain ⟨Ao45, co45, eo45⟩ := Kd.R_slice HO977.out; subst eo45; have hnb46 := NB983_967.out; have hnc46 := NB967_983.out; have hcz47_0 : w41.cell? ⟨gb983, 0, none⟩ = some (.int .i64 0) := (blk_cell BK983.out 0).trans rfl; have hcz47_1 : w41.cell? ⟨gb983, 1, none⟩ = some (.int .i64 0) := (blk_cell BK983.out 1).trans rfl; have hfz47_0 := blk_frozen BK983.out 0; have hfz47_1 := blk_frozen BK983.out 1))
            (try simp only [Act.put, List.setIfInBounds_toArray, List.set_cons_zero, List.set_cons_succ])
            go_cut [79] (fun v79 wc => ∃ (kq : Nat) (x79_36 : Bool), v79 = .bool x79_36 ∧ Aside0 (spec_SegsSoFar.j3 kq l0 x5_3 t978 t981 x79_36 t974 t975 = some (r1, r2, r3, r4)) ∧ Aside0 (kq ≤ k3) ∧ Aside0 (Kd.S k131 131 wc w.heap.size (fun k_ => some k_ ≠ ((.slice Ao45 t975.length co45) : Value).ownBlock ∧ k_ ≠ gb982) (.slice Ao38 x5_3.length co38) x5_3) ∧ Aside0 (Kd.R (Kd.int .u8) 5 wc w.heap.size (fun _ => True) (.slice Ao45 t975.length co45) t975) ∧ Aside0 (wc.heap[gb967]? = some (.cells #[.int .i64 x968000_3, .int .i64 x968001_3] 65 (0, 0))) ∧ Aside0 (wc.heap[gb982]? = some (.cells #[.int .i64 t974, (.slice Ao45 t975.length co45)] 131 (0, 0))) ∧ Aside0 (wc.heap[gb983]? = some (.cells #[.int .i64 t979, .int .i64 t980] 65 (0, 0))) ∧ Aside0 (Below w.heap.size w wc))
            case first =>
             have H := HC37.out
             clear HC37
             by_cases c48 : t981 = true
             ·subst c48
              have H1 : (spec_SegsSoFar.j3 k3 l0 x5_3 t978 true (decide (t978 < (l0.length : Int))) t974 t975) = some (r1, r2, r3, r4) := by rw [if_pos rfl] at H; exact H
              clear H
              have H := H1
              clear H1
              have H' := Aside0.mk H
              clear H
              go_wp2
              go_meet
              case rel => exact ⟨_, (decide (t978 < (l0.length : Int))), (by first | rfl | (simp; done) | (simp [*]; done)), H', ⟨by have := HJ6.out; have := HJ15.out; have := HK3.out; first | omega | exact Nat.le_refl _⟩, ⟨by (with_reducible repeat (first | apply Kd.S_alloc | apply Kd.S_drewN | apply Kd.S_drew)); exact Kd.S_mono (Kd.S_far (p := ⟨gb983, 1, none⟩) (Kd.S_far (p := ⟨gb983, 0, none⟩) (Kd.S_far (p := ⟨gb982, 1, none⟩) (Kd.S_far (p := ⟨gb982, 0, none⟩) (Kd.S_types (Kd.S_mono HO_5.out (fun k_ hk => (⟨hk, hk.2⟩ : _ ∧ k_ ≠ gb982))) BK983.out (by decide)) (fun _ hk => hk.1.2) (.int .i64 t974)) (fun _ hk => hk.1.2) (.slice Ao45 t975.length co45)) (fun _ hk => hk.2) (.int .i64 t979)) (fun _ hk => hk.2) (.int .i64 t980)) (fun _ hk => ⟨hk.1.1.1.2, hk.1.1.2⟩)⟩, ⟨by (with_reducible repeat (first | apply Kd.R_alloc | apply Kd.R_drewN | apply Kd.R_drew)); exact Kd.R_mono (Kd.R_far (p := ⟨gb983, 1, none⟩) (Kd.R_far (p := ⟨gb983, 0, none⟩) (Kd.R_far (p := ⟨gb982, 1, none⟩) (Kd.R_far (p := ⟨gb982, 0, none⟩) (Kd.R_types (Kd.R_types HO977.out BK982.out (by decide)) BK983.out (by decide)) (fun _ hk => hk.1.2) (.int .i64 t974)) (fun _ hk => hk.1.2) (.slice Ao45 t975.length co45)) (fun _ hk => hk.2) (.int .i64 t979)) (fun _ hk => hk.2) (.int .i64 t980)) (fun _ hk => trivial)⟩, ⟨by (with_reducible repeat (first | refine blk_drewN ?_ _ | refine blk_drew ?_ | refine blk_alloc ?_ _)); refine blk_far ?_ NB967_983.out _; (with_reducible repeat (first | refine blk_drewN ?_ _ | refine blk_drew ?_ | refine blk_alloc ?_ _)); refine blk_far ?_ NB967_983.out _; (with_reducible repeat (first | refine blk_drewN ?_ _ | refine blk_drew ?_ | refine blk_alloc ?_ _)); refine blk_far ?_ NB967_982.out _; (with_reducible repeat (first | refine blk_drewN ?_ _ | refine blk_drew ?_ | refine blk_alloc ?_ _)); refine blk_far ?_ NB967_982.out _; (with_reducible repeat (first | refine blk_drewN ?_ _ | refine blk_drew ?_ | refine blk_alloc ?_ _)); exact BK967.out⟩, ⟨by (with_reducible repeat (first | refine blk_drewN ?_ _ | refine blk_drew ?_ | refine blk_alloc ?_ _)); refine blk_far ?_ NB982_983.out _; (with_reducible repeat (first | refine blk_drewN ?_ _ | refine blk_drew ?_ | refine blk_alloc ?_ _)); refine blk_far ?_ NB982_983.out _; (with_reducible repeat (first | refine blk_drewN ?_ _ | refine blk_drew ?_ | refine blk_alloc ?_ _)); refine blk_put (cs := #[.int .i64 t974, .slice none 0 0]) ?_ 1 _ rfl; (with_reducible repeat (first | refine blk_drewN ?_ _ | refine blk_drew ?_ | refine blk_alloc ?_ _)); refine blk_put (cs := #[.int .i64 0, .slice none 0 0]) ?_ 0 _ rfl; (with_reducible repeat (first | refine blk_drewN ?_ _ | refine blk_drew ?_ | refine blk_alloc ?_ _)); exact BK982.out⟩, ⟨by (with_reducible repeat (first | refine blk_drewN ?_ _ | refine blk_drew ?_ | refine blk_alloc ?_ _)); refine blk_put (cs := #[.int .i64 t979, .int .i64 0]) ?_ 1 _ rfl; (with_reducible repeat (first | refine blk_drewN ?_ _ | refine blk_drew ?_ | refine blk_alloc ?_ _)); refine blk_put (cs := #[.int .i64 0, .int .i64 0]) ?_ 0 _ rfl; (with_reducible repeat (first | refine blk_drewN ?_ _ | refine blk_drew ?_ | refine blk_alloc ?_ _)); refine blk_far ?_ NB983_982.out _; (with_reducible repeat (first | refine blk_drewN ?_ _ | refine blk_drew ?_ | refine blk_alloc ?_ _)); refine blk_far ?_ NB983_982.out _; (with_reducible repeat (first | refine blk_drewN ?_ _ | refine blk_drew ?_ | refine blk_alloc ?_ _)); exact BK983.out⟩, ⟨by repeat (first | (with_reducible first | exact HB.out | apply below_alloc | apply pw_below_drewN | apply below_drew1 | refine below_set ?_ GE967.out | refine below_set ?_ GE982.out | refine below_set ?_ GE983.out) | exact HB.out)⟩⟩
             ·replace c48 := Bool.eq_false_iff.mpr c48
              subst c48
              have H1 : (spec_SegsSoFar.j3 k3 l0 x5_3 t978 false false t974 t975) = some (r1, r2, r3, r4) := by rw [if_neg (show ¬ (false = true) by decide)] at H; exact H
              clear H
              have H := H1
              clear H1
              have H' := Aside0.mk H
              clear H
              go_wp2
              go_meet
              case rel => exact ⟨_, (false), (by first | rfl | (simp; done) | (simp [*]; done)), H', ⟨by have := HJ6.out; have := HJ15.out; have := HK3.out; first | omega | exact Nat.le_refl _⟩, ⟨by (with_reducible repeat (first | apply Kd.S_alloc | apply Kd.S_drewN | apply Kd.S_drew)); exact Kd.S_mono (Kd.S_far (p := ⟨gb983, 1, none⟩) (Kd.S_far (p := ⟨gb983, 0, none⟩) (Kd.S_far (p := ⟨gb982, 1, none⟩) (Kd.S_far (p := ⟨gb982, 0, none⟩) (Kd.S_types (Kd.S_mono HO_5.out (fun k_ hk => (⟨hk, hk.2⟩ : _ ∧ k_ ≠ gb982))) BK983.out (by decide)) (fun _ hk => hk.1.2) (.int .i64 t974)) (fun _ hk => hk.1.2) (.slice Ao45 t975.length co45)) (fun _ hk => hk.2) (.int .i64 t979)) (fun _ hk => hk.2) (.int .i64 t980)) (fun _ hk => ⟨hk.1.1.1.2, hk.1.1.2⟩)⟩, ⟨by (with_reducible repeat (first | apply Kd.R_alloc | apply Kd.R_drewN | apply Kd.R_drew)); exact Kd.R_mono (Kd.R_far (p := ⟨gb983, 1, none⟩) (Kd.R_far (p := ⟨gb983, 0, none⟩) (Kd.R_far (p := ⟨gb982, 1, none⟩) (Kd.R_far (p := ⟨gb982, 0, none⟩) (Kd.R_types (Kd.R_types HO977.out BK982.out (by decide)) BK983.out (by decide)) (fun _ hk => hk.1.2) (.int .i64 t974)) (fun _ hk => hk.1.2) (.slice Ao45 t975.length co45)) (fun _ hk => hk.2) (.int .i64 t979)) (fun _ hk => hk.2) (.int .i64 t980)) (fun _ hk => trivial)⟩, ⟨by (with_reducible repeat (first | refine blk_drewN ?_ _ | refine blk_drew ?_ | refine blk_alloc ?_ _)); refine blk_far ?_ NB967_983.out _; (with_reducible repeat (first | refine blk_drewN ?_ _ | refine blk_drew ?_ | refine blk_alloc ?_ _)); refine blk_far ?_ NB967_983.out _; (with_reducible repeat (first | refine blk_drewN ?_ _ | refine blk_drew ?_ | refine blk_alloc ?_ _)); refine blk_far ?_ NB967_982.out _; (with_reducible repeat (first | refine blk_drewN ?_ _ | refine blk_drew ?_ | refine blk_alloc ?_ _)); refine blk_far ?_ NB967_982.out _; (with_reducible repeat (first | refine blk_drewN ?_ _ | refine blk_drew ?_ | refine blk_alloc ?_ _)); exact BK967.out⟩, ⟨by (with_reducible repeat (first | refine blk_drewN ?_ _ | refine blk_drew ?_ | refine blk_alloc ?_ _)); refine blk_far ?_ NB982_983.out _; (with_reducible repeat (first | refine blk_drewN ?_ _ | refine blk_drew ?_ | refine blk_alloc ?_ _)); refine blk_far ?_ NB982_983.out _; (with_reducible repeat (first | refine blk_drewN ?_ _ | refine blk_drew ?_ | refine blk_alloc ?_ _)); refine blk_put (cs := #[.int .i64 t974, .slice none 0 0]) ?_ 1 _ rfl; (with_reducible repeat (first | refine blk_drewN ?_ _ | refine blk_drew ?_ | refine blk_alloc ?_ _)); refine blk_put (cs := #[.int .i64 0, .slice none 0 0]) ?_ 0 _ rfl; (with_reducible repeat (first | refine blk_drewN ?_ _ | refine blk_drew ?_ | refine blk_alloc ?_ _)); exact BK982.out⟩, ⟨by (with_reducible repeat (first | refine blk_drewN ?_ _ | refine blk_drew ?_ | refine blk_alloc ?_ _)); refine blk_put (cs := #[.int .i64 t979, .int .i64 0]) ?_ 1 _ rfl; (with_reducible repeat (first | refine blk_drewN ?_ _ | refine blk_drew ?_ | refine blk_alloc ?_ _)); refine blk_put (cs := #[.int .i64 0, .int .i64 0]) ?_ 0 _ rfl; (with_reducible repeat (first | refine blk_drewN ?_ _ | refine blk_drew ?_ | refine blk_alloc ?_ _)); refine blk_far ?_ NB983_982.out _; (with_reducible repeat (first | refine blk_drewN ?_ _ | refine blk_drew ?_ | refine blk_alloc ?_ _)); refine blk_far ?_ NB983_982.out _; (with_reducible repeat (first | refine blk_drewN ?_ _ | refine blk_drew ?_ | refine blk_alloc ?_ _)); exact BK983.out⟩, ⟨by repeat (first | (with_reducible first | exact HB.out | apply below_alloc | apply pw_below_drewN | apply below_drew1 | refine below_set ?_ GE967.out | refine below_set ?_ GE982.out | refine below_set ?_ GE983.out) | exact HB.out)⟩⟩
            case rest =>
             clear HC37
             try clear c1
             try clear c2
             try clear c2b0
             try clear c2b1
             try clear p2
             try clear c3
             try clear c4
             try clear c5
             try clear p9
             try clear q9
             try clear hx9
             try clear qi9
             try clear c11
             try clear c11b0
             try clear c11b1
             try clear c11b2
             try clear c12
             try clear c12b0
             try clear c12b1
             try clear c13
             try clear c13b0
             try clear c13b1
             try clear c14
             try clear c17
             try clear c17b0
             try clear c17b1
             try clear c18
             try clear c18b0
             try clear c18b1
             try clear c19
             try clear c19b0
             try clear c19b1
             try clear c20
             try clear c20b0
             try clear c20b1
             try clear c21
             try clear c24
             try clear c24b0
             try clear c24b1
             try clear c29
             try clear c30
             try clear c33
             try clear c36
             try clear c36b0
             try clear c36b1
             try clear c42
             try clear c43
             try clear c46
             try clear c48
             try clear hcz15_0
             try clear hcz15_1
             try clear hcz22_0
             try clear hcz22_1
             try clear hcz31_0
             try clear hcz31_1
             try clear hcz34_0
             try clear hcz34_1
             try clear hcz35_0
             try clear hcz35_1
             try clear hcz44_0
             try clear hcz44_1
             try clear hcz47_0
             try clear hcz47_1
             try clear hcz6_0
             try clear hcz6_1
             try clear hfz15_0
             try clear hfz15_1
             try clear hfz22_0
             try clear hfz22_1
             try clear hfz31_0
             try clear hfz31_1
             try clear hfz34_0
             try clear hfz34_1
             try clear hfz35_0
             try clear hfz35_1
             try clear hfz44_0
             try clear hfz44_1
             try clear hfz47_0
             try clear hfz47_1
             try clear hfz6_0
             try clear hfz6_1
             try clear hx971_0
             try clear hx972_0
             try clear hx973_0
             try clear p2
             try clear p9
             try clear p971
             try clear p972
             try clear p973
             try clear q9
             try clear q971
             try clear q972
             try clear q973
             obtain ⟨kq, x79_36, rfl, HA, HJ36, HO_5, HO_983001, BK967, BK982, BK983, HB⟩ := hcut
             cases kq with
             | zero => exact absurd HA.out (by simp [spec_SegsSoFar.j3])
             | succ kj36 =>
              have H := HA.out
              clear HA
              simp only [spec_SegsSoFar.j3] at H
              by_cases c49 : x79_36 = true
              ·subst c49
               have H1 : (some (x5_3, true, 7, t978)) = some (r1, r2, r3, r4) := by rw [if_pos rfl] at H; exact H
               clear H
               have H := H1
               clear H1
               simp only [Option.some.injEq, Prod.mk.injEq] at H
               obtain ⟨rfl, rfl, rfl, rfl⟩ := H
               have hnb50 := NB967_982.out
               have hnc50 := NB982_967.out
               have hnb51 := NB967_983.out
               have hnc51 := NB983_967.out
               have hcz52_0 : wc.cell? ⟨gb967, 0, none⟩ = some (.int .i64 x968000_3) := (blk_cell BK967.out 0).trans rfl
               have hcz52_1 : wc.cell? ⟨gb967, 1, none⟩ = some (.int .i64 x968001_3) := (blk_cell BK967.out 1).trans rfl
               have hfz52_0 := blk_frozen BK967.out 0
               have hfz52_1 := blk_frozen BK967.out 1
               go_wp2
               refine bodyPost_ret (results_list (rs := [.tmp 2, .tmp 3, .cell 4 65]) rfl (by simp) (.tmp (.tmp (.cell gb967 65 #[.int .i64 7, .int .i64 t978] (0, 0) _ rfl (by (with_reducible repeat (first | refine blk_drewN ?_ _ | refine blk_drew ?_ | refine blk_alloc ?_ _)); refine blk_put (cs := #[.int .i64 7, .int .i64 x968001_3]) ?_ 1 _ rfl; (with_reducible repeat (first | refine blk_drewN ?_ _ | refine blk_drew ?_ | refine blk_alloc ?_ _)); refine blk_put (cs := #[.int .i64 x968000_3, .int .i64 x968001_3]) ?_ 0 _ rfl; (with_reducible repeat (first | refine blk_drewN ?_ _ | refine blk_drew ?_ | refine blk_alloc ?_ _)); exact BK967.out) Try.underlying65 rfl (by kernel_rfl) .nil)))) rfl ?_
               exact ⟨_, by first | rfl | (simp [errW_none, errW_some] <;> rfl) | (simp [*, errW_none, errW_some] <;> rfl), by (with_reducible repeat (first | apply Kd.S_alloc | apply Kd.S_drewN | apply Kd.S_drew)); exact Kd.S_mono (Kd.S_far (p := ⟨gb967, 1, none⟩) (Kd.S_far (p := ⟨gb967, 0, none⟩) (Kd.S_types HO_5.out BK967.out (by decide)) (fun _ hk => hk.2) (.int .i64 7)) (fun _ hk => hk.2) (.int .i64 t978)) (fun _ hk => trivial), by repeat (first | (with_reducible first | exact HB.out | apply below_alloc | apply pw_below_drewN | apply below_drew1 | refine below_set ?_ GE967.out | refine below_set ?_ GE982.out | refine below_set ?_ GE983.out) | exact HB.out)⟩
              ·replace c49 := Bool.eq_false_iff.mpr c49
               subst c49
               have H1 : (if t981 = true then (some (x5_3, true, 0, 0)) else (if t974 = 0 then (if (wrap64 (t978 + 1)) ≥ (l0.length : Int) then (some (x5_3, false, 0, 0)) else (if x5_3.length < 4398046511104 then ((spec_l02Kind.f t974).bind fun t987 => (spec_SegsSoFar.l0 kj36 l0 (x5_3 ++ [(⟨t974, t975⟩ : S131)]) t978 t987)) else (none))) else (if x5_3.length < 4398046511104 then ((spec_l02Kind.f t974).bind fun t991 => (spec_SegsSoFar.l0 kj36 l0 (x5_3 ++ [(⟨t974, t975⟩ : S131)]) t978 t991)) else (none)))) = some (r1, r2, r3, r4) := by rw [if_neg (show ¬ (false = true) by decide)] at H; exact H
               clear H
               have H := H1
               clear H1
               by_cases c53 : t981 = true
               ·subst c53
                have H1 : (some (x5_3, true, 0, 0)) = some (r1, r2, r3, r4) := by rw [if_pos rfl] at H; exact H
                clear H
                have H := H1
                clear H1
                simp only [Option.some.injEq, Prod.mk.injEq] at H
                obtain ⟨rfl, rfl, rfl, rfl⟩ := H
                have hnb54 := NB967_982.out
                have hnc54 := NB982_967.out
                have hnb55 := NB967_983.out
                have hnc55 := NB983_967.out
                have hcz56_0 : wc.cell? ⟨gb967, 0, none⟩ = some (.int .i64 x968000_3) := (blk_cell BK967.out 0).trans rfl
                have hcz56_1 : wc.cell? ⟨gb967, 1, none⟩ = some (.int .i64 x968001_3) := (blk_cell BK967.out 1).trans rfl
                have hfz56_0 := blk_frozen BK967.out 0
                have hfz56_1 := blk_frozen BK967.out 1
                go_wp2
                refine bodyPost_ret (results_list (rs := [.tmp 2, .tmp 3, .cell 4 65]) rfl (by simp) (.tmp (.tmp (.cell gb967 65 #[.int .i64 0, .int .i64 0] (0, 0) _ rfl (by (with_reducible repeat (first | refine blk_drewN ?_ _ | refine blk_drew ?_ | refine blk_alloc ?_ _)); refine blk_put (cs := #[.int .i64 0, .int .i64 x968001_3]) ?_ 1 _ rfl; (with_reducible repeat (first | refine blk_drewN ?_ _ | refine blk_drew ?_ | refine blk_alloc ?_ _)); refine blk_put (cs := #[.int .i64 x968000_3, .int .i64 x968001_3]) ?_ 0 _ rfl; (with_reducible repeat (first | refine blk_drewN ?_ _ | refine blk_drew ?_ | refine blk_alloc ?_ _)); exact BK967.out) Try.underlying65 rfl (by kernel_rfl) .nil)))) rfl ?_
                exact ⟨_, by first | rfl | (simp [errW_none, errW_some] <;> rfl) | (simp [*, errW_none, errW_some] <;> rfl), by (with_reducible repeat (first | apply Kd.S_alloc | apply Kd.S_drewN | apply Kd.S_drew)); exact Kd.S_mono (Kd.S_far (p := ⟨gb967, 1, none⟩) (Kd.S_far (p := ⟨gb967, 0, none⟩) (Kd.S_types HO_5.out BK967.out (by decide)) (fun _ hk => hk.2) (.int .i64 0)) (fun _ hk => hk.2) (.int .i64 0)) (fun _ hk => trivial), by repeat (first | (with_reducible first | exact HB.out | apply below_alloc | apply pw_below_drewN | apply below_drew1 | refine below_set ?_ GE967.out | refine below_set ?_ GE982.out | refine below_set ?_ GE983.out) | exact HB.out)⟩
               ·replace c53 := Bool.eq_false_iff.mpr c53
                subst c53
                have H1 : (if t974 = 0 then (if (wrap64 (t978 + 1)) ≥ (l0.length : Int) then (some (x5_3, false, 0, 0)) else (if x5_3.length < 4398046511104 then ((spec_l02Kind.f t974).bind fun t987 => (spec_SegsSoFar.l0 kj36 l0 (x5_3 ++ [(⟨t974, t975⟩ : S131)]) t978 t987)) else (none))) else (if x5_3.length < 4398046511104 then ((spec_l02Kind.f t974).bind fun t991 => (spec_SegsSoFar.l0 kj36 l0 (x5_3 ++ [(⟨t974, t975⟩ : S131)]) t978 t991)) else (none))) = some (r1, r2, r3, r4) := by rw [if_neg (show ¬ (false = true) by decide)] at H; exact H
                clear H
                have H := H1
                clear H1
                by_cases c57 : t974 = 0
                ·rw [if_pos c57] at H
                 have c57b0 : (t974 == 0) = true := beq_iff_eq.mpr c57
                 have c57b1 : (t974 != 0) = false := bne_eq_false_iff_eq.mpr c57
                 clear c57
                 by_cases c58 : (wrap64 (t978 + 1)) ≥ (l0.length : Int)
                 ·rw [if_pos c58] at H
                  have c58b0 : decide ((l0.length : Int) ≤ (wrap64 (t978 + 1))) = true := decide_eq_true c58
                  clear c58
                  simp only [Option.some.injEq, Prod.mk.injEq] at H
                  obtain ⟨rfl, rfl, rfl, rfl⟩ := H
                  have hnb59 := NB982_967.out
                  have hnc59 := NB967_982.out
                  have hnb60 := NB982_983.out
                  have hnc60 := NB983_982.out
                  have hcz61_0 : wc.cell? ⟨gb982, 0, none⟩ = some (.int .i64 t974) := (blk_cell BK982.out 0).trans rfl
                  have hcz61_1 : wc.cell? ⟨gb982, 1, none⟩ = some (.slice Ao45 t975.length co45) := (blk_cell BK982.out 1).trans rfl
                  have hfz61_0 := blk_frozen BK982.out 0
                  have hfz61_1 := blk_frozen BK982.out 1
                  have hnb62 := NB967_983.out
                  have hnc62 := NB983_967.out
                  have hcz63_0 : wc.cell? ⟨gb967, 0, none⟩ = some (.int .i64 x968000_3) := (blk_cell BK967.out 0).trans rfl
                  have hcz63_1 : wc.cell? ⟨gb967, 1, none⟩ = some (.int .i64 x968001_3) := (blk_cell BK967.out 1).trans rfl
                  have hfz63_0 := blk_frozen BK967.out 0
                  have hfz63_1 := blk_frozen BK967.out 1
                  go_wp2
                  refine bodyPost_ret (results_list (rs := [.tmp 2, .tmp 3, .cell 4 65]) rfl (by simp) (.tmp (.tmp (.cell gb967 65 #[.int .i64 0, .int .i64 0] (0, 0) _ rfl (by (with_reducible repeat (first | refine blk_drewN ?_ _ | refine blk_drew ?_ | refine blk_alloc ?_ _)); refine blk_put (cs := #[.int .i64 0, .int .i64 x968001_3]) ?_ 1 _ rfl; (with_reducible repeat (first | refine blk_drewN ?_ _ | refine blk_drew ?_ | refine blk_alloc ?_ _)); refine blk_put (cs := #[.int .i64 x968000_3, .int .i64 x968001_3]) ?_ 0 _ rfl; (with_reducible repeat (first | refine blk_drewN ?_ _ | refine blk_drew ?_ | refine blk_alloc ?_ _)); exact BK967.out) Try.underlying65 rfl (by kernel_rfl) .nil)))) rfl ?_
                  exact ⟨_, by first | rfl | (simp [errW_none, errW_some] <;> rfl) | (simp [*, errW_none, errW_some] <;> rfl), by (with_reducible repeat (first | apply Kd.S_alloc | apply Kd.S_drewN | apply Kd.S_drew)); exact Kd.S_mono (Kd.S_far (p := ⟨gb967, 1, none⟩) (Kd.S_far (p := ⟨gb967, 0, none⟩) (Kd.S_types HO_5.out BK967.out (by decide)) (fun _ hk => hk.2) (.int .i64 0)) (fun _ hk => hk.2) (.int .i64 0)) (fun _ hk => trivial), by repeat (first | (with_reducible first | exact HB.out | apply below_alloc | apply pw_below_drewN | apply below_drew1 | refine below_set ?_ GE967.out | refine below_set ?_ GE982.out | refine below_set ?_ GE983.out) | exact HB.out)⟩
                 ·rw [if_neg c58] at H
                  have c58b0 : decide ((l0.length : Int) ≤ (wrap64 (t978 + 1))) = false := decide_eq_false c58
                  clear c58
                  by_cases c64 : x5_3.length < 4398046511104
                  ·rw [if_pos c64] at H
                   have LMc64 := Aside0.mk c64
                   clear c64
                   obtain ⟨y984, hy984⟩ : ∃ y_ : List (S131), y_ = (x5_3 ++ [(⟨t974, t975⟩ : S131)]) := ⟨_, rfl⟩
                   replace H : ((spec_l02Kind.f t974).bind fun t987 => (spec_SegsSoFar.l0 kj36 l0 y984 t978 t987)) = some (r1, r2, r3, r4) := by first | (rw [hy984]; with_reducible exact H) | (have H2_ := (Option.bind_some _ _).symm.trans H; rw [hy984]; with_reducible exact H2_) | (have H2_ := (Option.bind_some _ _).symm.trans H; with_reducible exact H2_) | with_reducible exact H | (rw [hy984]; exact H) | exact H
                   have Ny984 := Aside0.mk hy984
                   clear hy984
                   replace H := Option.bind_eq_some_iff.mp H
                   obtain ⟨t987, A650, H⟩ := H
                   replace H : (spec_SegsSoFar.l0 kj36 l0 y984 t978 t987) = some (r1, r2, r3, r4) := H
                   have A65 := Aside0.mk A650
                   clear A650
                   have H' := Aside0.mk H
                   clear H
                   have hnb66 := NB982_967.out
                   have hnc66 := NB967_982.out
                   have hnb67 := NB982_983.out
                   have hnc67 := NB983_982.out
                   have hcz68_0 : wc.cell? ⟨gb982, 0, none⟩ = some (.int .i64 t974) := (blk_cell BK982.out 0).trans rfl
                   have hcz68_1 : wc.cell? ⟨gb982, 1, none⟩ = some (.slice Ao45 t975.length co45) := (blk_cell BK982.out 1).trans rfl
                   have hfz68_0 := blk_frozen BK982.out 0
                   have hfz68_1 := blk_frozen BK982.out 1
                   go_wp2_with (first | ((with_reducible refine gate_builtin (b := .append) (xs := #[.tmp 98, .tmp 100]) rfl ?_); (try (refine gate_guard (by rfl) ?_; dsimp only)); at_builtin; refine Kd.S_append k131 (w0 := w) w.heap.size rfl (.tmp 98) (.tmp 100) 63 131 (.agg #[(.int .i64 0), (.slice none 0 0)]) 32 rfl Try.underlying63 info131 rfl (by decide) (by omega) (.slice Ao38 x5_3.length co38) x5_3 (⟨t974, t975⟩ : S131) [.int .i64 t974, .slice Ao45 t975.length co45] (fun k_ => k_ ≠ gb982) (fun k_ => some k_ = (.slice Ao45 t975.length co45 : Value).ownBlock) rfl rfl ?aP (fun k_ hk_ => ((Kd.R_mono (ok' := fun k_ => ((fun k_ => k_ ≠ gb982)) k_ ∧ some k_ ≠ (.slice Ao38 x5_3.length co38 : Value).ownBlock) (Kd.R_types (Kd.R_apart' (HO_983001.out) (Kd.S_typed HO_5.out) (by decide)) BK982.out (by decide)) (fun k_ hk => ⟨hk.2, hk.1.2⟩))).1 k_ hk_.symm) ?aF ?aO ?aB ?aS ?aL ?_; (case aP => exact k131_mkM _ _ _ (⟨t974, t975⟩ : S131) (Kd.R_mono (Kd.R_tight rfl (Kd.R_mono (ok' := fun k_ => ((fun k_ => k_ ≠ gb982)) k_ ∧ some k_ ≠ (.slice Ao38 x5_3.length co38 : Value).ownBlock) (Kd.R_types (Kd.R_apart' (HO_983001.out) (Kd.S_typed HO_5.out) (by decide)) BK982.out (by decide)) (fun k_ hk => ⟨hk.2, hk.1.2⟩))) (fun _ h_ => h_))); (case aB => exact (by repeat (first | (with_reducible first | exact HB.out | apply below_alloc | apply pw_below_drewN | apply below_drew1 | refine below_set ?_ GE967.out | refine below_set ?_ GE982.out | refine below_set ?_ GE983.out) | exact HB.out))); (case aF => exact (fun k_ hk => Kd.freshB (g := gb982) (o := .cells #[.int .i64 t974, .slice Ao45 t975.length co45] 131 (0, 0)) (by (with_reducible repeat (first | refine blk_drewN ?_ _ | refine blk_drew ?_ | refine blk_alloc ?_ _)); exact BK982.out) k_ hk)); (case aO => exact (by (with_reducible repeat (first | apply Kd.S_alloc | apply Kd.S_drewN | apply Kd.S_drew)); exact Kd.S_mono HO_5.out (fun k_ hk => ⟨hk.2, fun e_ => hk.1 e_⟩))); (case aS => exact (below_size (by repeat (first | (with_reducible first | exact HB.out | apply below_alloc | apply pw_below_drewN | apply below_drew1 | refine below_set ?_ GE967.out | refine below_set ?_ GE982.out | refine below_set ?_ GE983.out) | exact HB.out)))); (case aL => have := LMc64.out; omega); intro v985 w69 ho hb hg hat; rw [← Ny984.out] at ho; have n0_ := Aside0.mk (blk_grown (g := gb967) (o := .cells #[.int .i64 x968000_3, .int .i64 x968001_3] 65 (0, 0)) (by (with_reducible repeat (first | refine blk_drewN ?_ _ | refine blk_drew ?_ | refine blk_alloc ?_ _)); exact BK967.out) hg (Kd.S_ne HO_5.out BK967.out (by decide))); have n1_ := Aside0.mk (blk_grown (g := gb982) (o := .cells #[.int .i64 t974, .slice Ao45 t975.length co45] 131 (0, 0)) (by (with_reducible repeat (first | refine blk_drewN ?_ _ | refine blk_drew ?_ | refine blk_alloc ?_ _)); exact BK982.out) hg (Kd.S_away HO_5.out (fun _ hk => hk.2))); have n2_ := Aside0.mk (blk_grown (g := gb983) (o := .cells #[.int .i64 t979, .int .i64 t980] 65 (0, 0)) (by (with_reducible repeat (first | refine blk_drewN ?_ _ | refine blk_drew ?_ | refine blk_alloc ?_ _)); exact BK983.out) hg (Kd.S_ne HO_5.out BK983.out (by decide))); have n3_ := Aside0.mk (hb); have n4_ := Aside0.mk (ho); clear BK967; clear BK982; clear BK983; clear HB; clear HO_5; clear HO_983001; have BK967 := n0_; have BK982 := n1_; have BK983 := n2_; have HB := n3_; have HO986 := n4_; clear n0_ n1_ n2_ n3_ n4_; clear ho hb hg hat; have hcz70_0 : w69.cell? ⟨gb982, 0, none⟩ = some (.int .i64 t974) := (blk_cell BK982.out 0).trans rfl; have hcz70_1 : w69.cell? ⟨gb982, 1, none⟩ = some (.slice Ao45 t975.length co45) := (blk_cell BK982.out 1).trans rfl; have hfz70_0 := blk_frozen BK982.out 0; have hfz70_1 := blk_frozen BK982.out 1) | ((with_reducible refine gate_callee (f := 132) rfl ?_); refine goesL_ (some 104) rfl rfl Try.func132 (by kernel_rfl) rfl #[.int .i64 t974] rfl (by (try simp only [List.map_toArray, List.map_cons, List.map_nil]); first | done | rfl | (simp only [List.length_drop, List.length_take]; rfl)) ?_; (with_reducible refine (spec_l02Kind.calls t974 t987 _ A65.out).mono ?_); rintro e w' ⟨rfl, ⟨nd, rfl⟩⟩; refine ⟨_, rfl, ?_⟩))
                   go_roundg kj36
                   case measure => have := HJ6.out; have := HJ15.out; have := HK3.out; have := HJ36.out; omega
                   case rel => exact ⟨(y984), (t978), (t987), (x968000_3), (x968001_3), (by first | rfl | (simp; done) | (simp [*]; done)), (by first | rfl | (simp; done) | (simp [*]; done)), H', ⟨by have := HJ6.out; have := HJ15.out; have := HK3.out; have := HJ36.out; omega⟩, ⟨by (with_reducible repeat (first | apply Kd.S_alloc | apply Kd.S_drewN | apply Kd.S_drew)); exact Kd.S_mono HO986.out (fun _ hk => trivial)⟩, ⟨by (with_reducible repeat (first | refine blk_drewN ?_ _ | refine blk_drew ?_ | refine blk_alloc ?_ _)); exact BK967.out⟩, ⟨by repeat (first | (with_reducible first | exact HB.out | apply below_alloc | apply pw_below_drewN | apply below_drew1 | refine below_set ?_ GE967.out | refine below_set ?_ GE982.out | refine below_set ?_ GE983.out) | exact HB.out)⟩⟩
                  ·rw [if_neg c64] at H
                   exact absurd H (by simp)
                ·rw [if_neg c57] at H
                 have c57b0 : (t974 == 0) = false := beq_eq_false_iff_ne.mpr c57
                 have c57b1 : (t974 != 0) = true := bne_iff_ne.mpr c57
                 by_cases c71 : x5_3.length < 4398046511104
                 ·rw [if_pos c71] at H
                  have LMc71 := Aside0.mk c71
                  clear c71
                  obtain ⟨y988, hy988⟩ : ∃ y_ : List (S131), y_ = (x5_3 ++ [(⟨t974, t975⟩ : S131)]) := ⟨_, rfl⟩
                  replace H : ((spec_l02Kind.f t974).bind fun t991 => (spec_SegsSoFar.l0 kj36 l0 y988 t978 t991)) = some (r1, r2, r3, r4) := by first | (rw [hy988]; with_reducible exact H) | (have H2_ := (Option.bind_some _ _).symm.trans H; rw [hy988]; with_reducible exact H2_) | (have H2_ := (Option.bind_some _ _).symm.trans H; with_reducible exact H2_) | with_reducible exact H | (rw [hy988]; exact H) | exact H
                  have Ny988 := Aside0.mk hy988
                  clear hy988
                  replace H := Option.bind_eq_some_iff.mp H
                  obtain ⟨t991, A720, H⟩ := H
                  replace H : (spec_SegsSoFar.l0 kj36 l0 y988 t978 t991) = some (r1, r2, r3, r4) := H
                  have A72 := Aside0.mk A720
                  clear A720
                  have H' := Aside0.mk H
                  clear H
                  have hnb73 := NB982_967.out
                  have hnc73 := NB967_982.out
                  have hnb74 := NB982_983.out
                  have hnc74 := NB983_982.out
                  have hcz75_0 : wc.cell? ⟨gb982, 0, none⟩ = some (.int .i64 t974) := (blk_cell BK982.out 0).trans rfl
                  have hcz75_1 : wc.cell? ⟨gb982, 1, none⟩ = some (.slice Ao45 t975.length co45) := (blk_cell BK982.out 1).trans rfl
                  have hfz75_0 := blk_frozen BK982.out 0
                  have hfz75_1 := blk_frozen BK982.out 1
                  go_wp2_with (first | ((with_reducible refine gate_builtin (b := .append) (xs := #[.tmp 98, .tmp 100]) rfl ?_); (try (refine gate_guard (by rfl) ?_; dsimp only)); at_builtin; refine Kd.S_append k131 (w0 := w) w.heap.size rfl (.tmp 98) (.tmp 100) 63 131 (.agg #[(.int .i64 0), (.slice none 0 0)]) 32 rfl Try.underlying63 info131 rfl (by decide) (by omega) (.slice Ao38 x5_3.length co38) x5_3 (⟨t974, t975⟩ : S131) [.int .i64 t974, .slice Ao45 t975.length co45] (fun k_ => k_ ≠ gb982) (fun k_ => some k_ = (.slice Ao45 t975.length co45 : Value).ownBlock) rfl rfl ?aP (fun k_ hk_ => ((Kd.R_mono (ok' := fun k_ => ((fun k_ => k_ ≠ gb982)) k_ ∧ some k_ ≠ (.slice Ao38 x5_3.length co38 : Value).ownBlock) (Kd.R_types (Kd.R_apart' (HO_983001.out) (Kd.S_typed HO_5.out) (by decide)) BK982.out (by decide)) (fun k_ hk => ⟨hk.2, hk.1.2⟩))).1 k_ hk_.symm) ?aF ?aO ?aB ?aS ?aL ?_; (case aP => exact k131_mkM _ _ _ (⟨t974, t975⟩ : S131) (Kd.R_mono (Kd.R_tight rfl (Kd.R_mono (ok' := fun k_ => ((fun k_ => k_ ≠ gb982)) k_ ∧ some k_ ≠ (.slice Ao38 x5_3.length co38 : Value).ownBlock) (Kd.R_types (Kd.R_apart' (HO_983001.out) (Kd.S_typed HO_5.out) (by decide)) BK982.out (by decide)) (fun k_ hk => ⟨hk.2, hk.1.2⟩))) (fun _ h_ => h_))); (case aB => exact (by repeat (first | (with_reducible first | exact HB.out | apply below_alloc | apply pw_below_drewN | apply below_drew1 | refine below_set ?_ GE967.out | refine below_set ?_ GE982.out | refine below_set ?_ GE983.out) | exact HB.out))); (case aF => exact (fun k_ hk => Kd.freshB (g := gb982) (o := .cells #[.int .i64 t974, .slice Ao45 t975.length co45] 131 (0, 0)) (by (with_reducible repeat (first | refine blk_drewN ?_ _ | refine blk_drew ?_ | refine blk_alloc ?_ _)); exact BK982.out) k_ hk)); (case aO => exact (by (with_reducible repeat (first | apply Kd.S_alloc | apply Kd.S_drewN | apply Kd.S_drew)); exact Kd.S_mono HO_5.out (fun k_ hk => ⟨hk.2, fun e_ => hk.1 e_⟩))); (case aS => exact (below_size (by repeat (first | (with_reducible first | exact HB.out | apply below_alloc | apply pw_below_drewN | apply below_drew1 | refine below_set ?_ GE967.out | refine below_set ?_ GE982.out | refine below_set ?_ GE983.out) | exact HB.out)))); (case aL => have := LMc71.out; omega); intro v989 w76 ho hb hg hat; rw [← Ny988.out] at ho; have n0_ := Aside0.mk (blk_grown (g := gb967) (o := .cells #[.int .i64 x968000_3, .int .i64 x968001_3] 65 (0, 0)) (by (with_reducible repeat (first | refine blk_drewN ?_ _ | refine blk_drew ?_ | refine blk_alloc ?_ _)); exact BK967.out) hg (Kd.S_ne HO_5.out BK967.out (by decide))); have n1_ := Aside0.mk (blk_grown (g := gb982) (o := .cells #[.int .i64 t974, .slice Ao45 t975.length co45] 131 (0, 0)) (by (with_reducible repeat (first | refine blk_drewN ?_ _ | refine blk_drew ?_ | refine blk_alloc ?_ _)); exact BK982.out) hg (Kd.S_away HO_5.out (fun _ hk => hk.2))); have n2_ := Aside0.mk (blk_grown (g := gb983) (o := .cells #[.int .i64 t979, .int .i64 t980] 65 (0, 0)) (by (with_reducible repeat (first | refine blk_drewN ?_ _ | refine blk_drew ?_ | refine blk_alloc ?_ _)); exact BK983.out) hg (Kd.S_ne HO_5.out BK983.out (by decide))); have n3_ := Aside0.mk (hb); have n4_ := Aside0.mk (ho); clear BK967; clear BK982; clear BK983; clear HB; clear HO_5; clear HO_983001; have BK967 := n0_; have BK982 := n1_; have BK983 := n2_; have HB := n3_; have HO990 := n4_; clear n0_ n1_ n2_ n3_ n4_; clear ho hb hg hat; have hcz77_0 : w76.cell? ⟨gb982, 0, none⟩ = some (.int .i64 t974) := (blk_cell BK982.out 0).trans rfl; have hcz77_1 : w76.cell? ⟨gb982, 1, none⟩ = some (.slice Ao45 t975.length co45) := (blk_cell BK982.out 1).trans rfl; have hfz77_0 := blk_frozen BK982.out 0; have hfz77_1 := blk_frozen BK982.out 1) | ((with_reducible refine gate_callee (f := 132) rfl ?_); refine goesL_ (some 104) rfl rfl Try.func132 (by kernel_rfl) rfl #[.int .i64 t974] rfl (by (try simp only [List.map_toArray, List.map_cons, List.map_nil]); first | done | rfl | (simp only [List.length_drop, List.length_take]; rfl)) ?_; (with_reducible refine (spec_l02Kind.calls t974 t991 _ A72.out).mono ?_); rintro e w' ⟨rfl, ⟨nd, rfl⟩⟩; refine ⟨_, rfl, ?_⟩))
                  go_roundg kj36
                  case measure => have := HJ6.out; have := HJ15.out; have := HK3.out; have := HJ36.out; omega
                  case rel => exact ⟨(y988), (t978), (t991), (x968000_3), (x968001_3), (by first | rfl | (simp; done) | (simp [*]; done)), (by first | rfl | (simp; done) | (simp [*]; done)), H', ⟨by have := HJ6.out; have := HJ15.out; have := HK3.out; have := HJ36.out; omega⟩, ⟨by (with_reducible repeat (first | apply Kd.S_alloc | apply Kd.S_drewN | apply Kd.S_drew)); exact Kd.S_mono HO990.out (fun _ hk => trivial)⟩, ⟨by (with_reducible repeat (first | refine blk_drewN ?_ _ | refine blk_drew ?_ | refine blk_alloc ?_ _)); exact BK967.out⟩, ⟨by repeat (first | (with_reducible first | exact HB.out | apply below_alloc | apply pw_below_drewN | apply below_drew1 | refine below_set ?_ GE967.out | refine below_set ?_ GE982.out | refine below_set ?_ GE983.out) | exact HB.out)⟩⟩
                 ·rw [if_neg c71] at H
                  exact absurd H (by simp)
           ·rw [if_neg c36] at H
            have c36b0 : (t979 == 0) = false := beq_eq_false_iff_ne.mpr c36
            have c36b1 : (t979 != 0) = true := bne_iff_ne.mpr c36
            simp only [Option.some.injEq, Prod.mk.injEq] at H
            obtain ⟨rfl, rfl, rfl, rfl⟩ := H
            obtain ⟨Ao78, co78, eo78⟩ := Kd.S_slice HO_5.out
            subst eo78
            try go_wp2_with (first | ((with_reducible refine gate_callee (f := 131) rfl ?_); refine goesL_ (some 58) rfl rfl Try.func131 (by kernel_rfl) rfl #[.slice A0 l0.length c0, .int .i64 x6_3, .int .i64 x7_3, .bool ((x5_3.length : Int) == 300)] rfl (by (try simp only [List.map_toArray, List.map_cons, List.map_nil]); first | done | rfl | (simp only [List.length_drop, List.length_take]; rfl)) ?_; (with_reducible refine (spec_l02Next.calls k3 _ _ l0 x6_3 x7_3 ((x5_3.length : Int) == 300) t974 t975 t978 t979 t980 t981 _ ?side1 ?side2 A23.out).mono ?_); (case side1 => repeat (first | exact (Kd.C_below HR0.out HB.out) | (with_reducible refine Kd.C_alloc ?_ _) | (with_reducible refine Kd.C_drewN ?_ _) | (with_reducible refine Kd.C_drew ?_))); (case side2 => exact HC0.out); rintro e w79 ⟨v976, rfl, ho0, hb⟩; refine ⟨_, rfl, ?_⟩; have n0_ := Aside0.mk (Kd.S_elder' (by (with_reducible repeat (first | apply Kd.S_alloc | apply Kd.S_drewN | apply Kd.S_drew)); exact HO_5.out) (Kd.R_base ho0) hb); have n1_ := Aside0.mk (Kd.R_lower ho0 (below_size (by repeat (first | (with_reducible first | exact HB.out | apply below_alloc | apply pw_below_drewN | apply below_drew1 | refine below_set ?_ GE967.out) | exact HB.out)))); have n2_ := Aside0.mk (blk_below (g := gb967) (o := .cells #[.int .i64 x968000_3, .int .i64 x968001_3] 65 (0, 0)) (by (with_reducible repeat (first | refine blk_drewN ?_ _ | refine blk_drew ?_ | refine blk_alloc ?_ _)); exact BK967.out) hb); have n3_ := Aside0.mk (below_step (by repeat (first | (with_reducible first | exact HB.out | apply below_alloc | apply pw_below_drewN | apply below_drew1 | refine below_set ?_ GE967.out) | exact HB.out)) hb); clear HO_5; clear BK967; clear HB; have HO_5 := n0_; have HO977 := n1_; have BK967 := n2_; have HB := n3_; clear n0_ n1_ n2_ n3_; (try clear hb); (try clear hb2); (try clear hk); (try clear hi); (try clear ho0)) | ((with_reducible refine gate_dst (N := 8) rfl ?_); (try (refine gate_guard (by rfl) ?_; dsimp only)); refine box_event ?hg (N := 8) ?hd (cs := #[.int .i64 0, .slice none 0 0]) (t := 131) ?hr ?_; (case hd => rfl); (case hg => rfl); (case hr => first | (go_simp; done) | (go_simp; rfl)); intro gb982 hg w80 hbox hb; have n0_ := Aside0.mk (Kd.S_below (Kd.S_elderB (by (with_reducible repeat (first | apply Kd.S_alloc | apply Kd.S_drewN | apply Kd.S_drew)); exact HO_5.out) gb982 (Nat.le_of_eq hg.symm)) hb); have n1_ := Aside0.mk (Kd.R_below (by (with_reducible repeat (first | apply Kd.R_alloc | apply Kd.R_drewN | apply Kd.R_drew)); exact HO977.out) hb); have n2_ := Aside0.mk (blk_below (g := gb967) (o := .cells #[.int .i64 x968000_3, .int .i64 x968001_3] 65 (0, 0)) (by (with_reducible repeat (first | refine blk_drewN ?_ _ | refine blk_drew ?_ | refine blk_alloc ?_ _)); exact BK967.out) hb); have n3_ := Aside0.mk (below_step (by repeat (first | (with_reducible first | exact HB.out | apply below_alloc | apply pw_below_drewN | apply below_drew1 | refine below_set ?_ GE967.out) | exact HB.out)) hb); have n4_ := Aside0.mk (hbox); have n5_ := Aside0.mk ((by rw [hg]; exact (below_size (by repeat (first | (with_reducible first | exact HB.out | apply below_alloc | apply pw_below_drewN | apply below_drew1 | refine below_set ?_ GE967.out) | exact HB.out))) : w.heap.size ≤ gb982)); have n6_ := Aside0.mk ((by rw [hg]; exact (below_size (by repeat (first | (with_reducible first | exact HB.out | apply below_alloc | apply pw_below_drewN | apply below_drew1 | refine below_set ?_ GE967.out) | exact HB.out))) : w.heap.size ≤ gb982)); have n7_ := Aside0.mk ((by rw [hg]; exact Nat.ne_of_lt (blk_lt (g := gb967) (o := .cells #[.int .i64 x968000_3, .int .i64 x968001_3] 65 (0, 0)) (by (with_reducible repeat (first | refine blk_drewN ?_ _ | refine blk_drew ?_ | refine blk_alloc ?_ _)); exact BK967.out)) : gb967 ≠ gb982)); have n8_ := Aside0.mk ((by rw [hg]; exact Nat.ne_of_gt (blk_lt (g := gb967) (o := .cells #[.int .i64 x968000_3, .int .i64 x968001_3] 65 (0, 0)) (by (with_reducible repeat (first | refine blk_drewN ?_ _ | refine blk_drew ?_ | refine blk_alloc ?_ _)); exact BK967.out)) : gb982 ≠ gb967)); clear HO_5; clear HO977; clear BK967; clear HB; have HO_5 := n0_; have HO977 := n1_; have BK967 := n2_; have HB := n3_; have BK982 := n4_; have GW982 := n5_; have GE982 := n6_; have NB967_982 := n7_; have NB982_967 := n8_; clear n0_ n1_ n2_ n3_ n4_ n5_ n6_ n7_ n8_; clear hb hbox hg) | ((with_reducible refine gate_dst (N := 10) rfl ?_); (try (refine gate_guard (by rfl) ?_; dsimp only)); refine box_event ?hg (N := 10) ?hd (cs := #[.int .i64 0, .int .i64 0]) (t := 65) ?hr ?_; (case hd => rfl); (case hg => rfl); (case hr => first | (go_simp; done) | (go_simp; rfl)); intro gb983 hg w81 hbox hb; have n0_ := Aside0.mk (Kd.S_below (by (with_reducible repeat (first | apply Kd.S_alloc | apply Kd.S_drewN | apply Kd.S_drew)); exact HO_5.out) hb); have n1_ := Aside0.mk (Kd.R_below (by (with_reducible repeat (first | apply Kd.R_alloc | apply Kd.R_drewN | apply Kd.R_drew)); exact HO977.out) hb); have n2_ := Aside0.mk (blk_below (g := gb967) (o := .cells #[.int .i64 x968000_3, .int .i64 x968001_3] 65 (0, 0)) (by (with_reducible repeat (first | refine blk_drewN ?_ _ | refine blk_drew ?_ | refine blk_alloc ?_ _)); exact BK967.out) hb); have n3_ := Aside0.mk (blk_below (g := gb982) (o := .cells #[.int .i64 0, .slice none 0 0] 131 (0, 0)) (by (with_reducible repeat (first | refine blk_drewN ?_ _ | refine blk_drew ?_ | refine blk_alloc ?_ _)); exact BK982.out) hb); have n4_ := Aside0.mk (below_step (by repeat (first | (with_reducible first | exact HB.out | apply below_alloc | apply pw_below_drewN | apply below_drew1 | refine below_set ?_ GE967.out | refine below_set ?_ GE982.out) | exact HB.out)) hb); have n5_ := Aside0.mk (hbox); have n6_ := Aside0.mk ((by rw [hg]; exact (below_size (by repeat (first | (with_reducible first | exact HB.out | apply below_alloc | apply pw_below_drewN | apply below_drew1 | refine below_set ?_ GE967.out | refine below_set ?_ GE982.out) | exact HB.out))) : w.heap.size ≤ gb983)); have n7_ := Aside0.mk ((by rw [hg]; exact (below_size (by repeat (first | (with_reducible first | exact HB.out | apply below_alloc | apply pw_below_drewN | apply below_drew1 | refine below_set ?_ GE967.out | refine below_set ?_ GE982.out) | exact HB.out))) : w.heap.size ≤ gb983)); have n8_ := Aside0.mk ((by rw [hg]; exact Nat.ne_of_lt (blk_lt (g := gb967) (o := .cells #[.int .i64 x968000_3, .int .i64 x968001_3] 65 (0, 0)) (by (with_reducible repeat (first | refine blk_drewN ?_ _ | refine blk_drew ?_ | refine blk_alloc ?_ _)); exact BK967.out)) : gb967 ≠ gb983)); have n9_ := Aside0.mk ((by rw [hg]; exact Nat.ne_of_gt (blk_lt (g := gb967) (o := .cells #[.int .i64 x968000_3, .int .i64 x968001_3] 65 (0, 0)) (by (with_reducible repeat (first | refine blk_drewN ?_ _ | refine blk_drew ?_ | refine blk_alloc ?_ _)); exact BK967.out)) : gb983 ≠ gb967)); have n10_ := Aside0.mk ((by rw [hg]; exact Nat.ne_of_lt (blk_lt (g := gb982) (o := .cells #[.int .i64 0, .slice none 0 0] 131 (0, 0)) (by (with_reducible repeat (first | refine blk_drewN ?_ _ | refine blk_drew ?_ | refine blk_alloc ?_ _)); exact BK982.out)) : gb982 ≠ gb983)); have n11_ := Aside0.mk ((by rw [hg]; exact Nat.ne_of_gt (blk_lt (g := gb982) (o := .cells #[.int .i64 0, .slice none 0 0] 131 (0, 0)) (by (with_reducible repeat (first | refine blk_drewN ?_ _ | refine blk_drew ?_ | refine blk_alloc ?_ _)); exact BK982.out)) : gb983 ≠ gb982)); clear HO_5; clear HO977; clear BK967; clear BK982; clear HB; have HO_5 := n0_; have HO977 := n1_; have BK967 := n2_; have BK982 := n3_; have HB := n4_; have BK983 := n5_; have GW983 := n6_; have GE983 := n7_; have NB967_983 := n8_; have NB983_967 := n9_; have NB982_983 := n10_; have NB983_982 := n11_; clear n0_ n1_ n2_ n3_ n4_ n5_ n6_ n7_ n8_ n9_ n10_ n11_; clear hb hbox hg; have hnb82 := NB982_967.out; have hnc82 := NB967_982.out; have hnb83 := NB982_983.out; have hnc83 := NB983_982.out; have hcz84_0 : w81.cell? ⟨gb982, 0, none⟩ = some (.int .i64 0) := (blk_cell BK982.out 0).trans rfl; have hcz84_1 : w81.cell? ⟨gb982, 1, none⟩ = some (.slice none 0 0) := (blk_cell BK982.out 1).trans rfl; have hfz84_0 := blk_frozen BK982.out 0; have hfz84_1 := blk_frozen BK982.out 1; obtain ⟨Ao85, co85, eo85⟩ := Kd.R_slice HO977.out; subst eo85; have hnb86 := NB983_967.out; have hnc86 := NB967_983.out; have hcz87_0 : w81.cell? ⟨gb983, 0, none⟩ = some (.int .i64 0) := (blk_cell BK983.out 0).trans rfl; have hcz87_1 : w81.cell? ⟨gb983, 1, none⟩ = some (.int .i64 0) := (blk_cell BK983.out 1).trans rfl; have hfz87_0 := blk_frozen BK983.out 0; have hfz87_1 := blk_frozen BK983.out 1))
            have n0_ : Aside0 (Kd.S k131 131 ((((w81.setCell ⟨gb982, 0, none⟩ (.int .i64 t974)).setCell ⟨gb982, 1, none⟩ (.slice Ao85 t975.length co85)).setCell ⟨gb983, 0, none⟩ (.int .i64 t979)).setCell ⟨gb983, 1, none⟩ (.int .i64 t980)) w.heap.size (fun k_ => some k_ ≠ (.slice Ao85 t975.length co85 : Value).ownBlock ∧ k_ ≠ gb982) (.slice Ao78 x5_3.length co78) x5_3) := ⟨by (with_reducible repeat (first | apply Kd.S_alloc | apply Kd.S_drewN | apply Kd.S_drew)); exact Kd.S_mono (Kd.S_far (p := ⟨gb983, 1, none⟩) (Kd.S_far (p := ⟨gb983, 0, none⟩) (Kd.S_far (p := ⟨gb982, 1, none⟩) (Kd.S_far (p := ⟨gb982, 0, none⟩) (Kd.S_types (Kd.S_mono HO_5.out (fun k_ hk => (⟨hk, hk.2⟩ : _ ∧ k_ ≠ gb982))) BK983.out (by decide)) (fun _ hk => hk.1.2) (.int .i64 t974)) (fun _ hk => hk.1.2) (.slice Ao85 t975.length co85)) (fun _ hk => hk.2) (.int .i64 t979)) (fun _ hk => hk.2) (.int .i64 t980)) (fun _ hk => ⟨hk.1.1.1.2, hk.1.1.2⟩)⟩
            have n1_ : Aside0 (Kd.R (Kd.int .u8) 5 ((((w81.setCell ⟨gb982, 0, none⟩ (.int .i64 t974)).setCell ⟨gb982, 1, none⟩ (.slice Ao85 t975.length co85)).setCell ⟨gb983, 0, none⟩ (.int .i64 t979)).setCell ⟨gb983, 1, none⟩ (.int .i64 t980)) w.heap.size (fun _ => True) (.slice Ao85 t975.length co85) t975) := ⟨by (with_reducible repeat (first | apply Kd.R_alloc | apply Kd.R_drewN | apply Kd.R_drew)); exact Kd.R_mono (Kd.R_far (p := ⟨gb983, 1, none⟩) (Kd.R_far (p := ⟨gb983, 0, none⟩) (Kd.R_far (p := ⟨gb982, 1, none⟩) (Kd.R_far (p := ⟨gb982, 0, none⟩) (Kd.R_types (Kd.R_types HO977.out BK982.out (by decide)) BK983.out (by decide)) (fun _ hk => hk.1.2) (.int .i64 t974)) (fun _ hk => hk.1.2) (.slice Ao85 t975.length co85)) (fun _ hk => hk.2) (.int .i64 t979)) (fun _ hk => hk.2) (.int .i64 t980)) (fun _ hk => trivial)⟩
            have n2_ : Aside0 (((((w81.setCell ⟨gb982, 0, none⟩ (.int .i64 t974)).setCell ⟨gb982, 1, none⟩ (.slice Ao85 t975.length co85)).setCell ⟨gb983, 0, none⟩ (.int .i64 t979)).setCell ⟨gb983, 1, none⟩ (.int .i64 t980)).heap[gb967]? = some (.cells #[.int .i64 x968000_3, .int .i64 x968001_3] 65 (0, 0))) := ⟨by (with_reducible repeat (first | refine blk_drewN ?_ _ | refine blk_drew ?_ | refine blk_alloc ?_ _)); refine blk_far ?_ NB967_983.out _; (with_reducible repeat (first | refine blk_drewN ?_ _ | refine blk_drew ?_ | refine blk_alloc ?_ _)); refine blk_far ?_ NB967_983.out _; (with_reducible repeat (first | refine blk_drewN ?_ _ | refine blk_drew ?_ | refine blk_alloc ?_ _)); refine blk_far ?_ NB967_982.out _; (with_reducible repeat (first | refine blk_drewN ?_ _ | refine blk_drew ?_ | refine blk_alloc ?_ _)); refine blk_far ?_ NB967_982.out _; (with_reducible repeat (first | refine blk_drewN ?_ _ | refine blk_drew ?_ | refine blk_alloc ?_ _)); exact BK967.out⟩
            have n3_ : Aside0 (((((w81.setCell ⟨gb982, 0, none⟩ (.int .i64 t974)).setCell ⟨gb982, 1, none⟩ (.slice Ao85 t975.length co85)).setCell ⟨gb983, 0, none⟩ (.int .i64 t979)).setCell ⟨gb983, 1, none⟩ (.int .i64 t980)).heap[gb982]? = some (.cells #[.int .i64 t974, .slice Ao85 t975.length co85] 131 (0, 0))) := ⟨by (with_reducible repeat (first | refine blk_drewN ?_ _ | refine blk_drew ?_ | refine blk_alloc ?_ _)); refine blk_far ?_ NB982_983.out _; (with_reducible repeat (first | refine blk_drewN ?_ _ | refine blk_drew ?_ | refine blk_alloc ?_ _)); refine blk_far ?_ NB982_983.out _; (with_reducible repeat (first | refine blk_drewN ?_ _ | refine blk_drew ?_ | refine blk_alloc ?_ _)); refine blk_put (cs := #[.int .i64 t974, .slice none 0 0]) ?_ 1 _ rfl; (with_reducible repeat (first | refine blk_drewN ?_ _ | refine blk_drew ?_ | refine blk_alloc ?_ _)); refine blk_put (cs := #[.int .i64 0, .slice none 0 0]) ?_ 0 _ rfl; (with_reducible repeat (first | refine blk_drewN ?_ _ | refine blk_drew ?_ | refine blk_alloc ?_ _)); exact BK982.out⟩
            have n4_ : Aside0 (((((w81.setCell ⟨gb982, 0, none⟩ (.int .i64 t974)).setCell ⟨gb982, 1, none⟩ (.slice Ao85 t975.length co85)).setCell ⟨gb983, 0, none⟩ (.int .i64 t979)).setCell ⟨gb983, 1, none⟩ (.int .i64 t980)).heap[gb983]? = some (.cells #[.int .i64 t979, .int .i64 t980] 65 (0, 0))) := ⟨by (with_reducible repeat (first | refine blk_drewN ?_ _ | refine blk_drew ?_ | refine blk_alloc ?_ _)); refine blk_put (cs := #[.int .i64 t979, .int .i64 0]) ?_ 1 _ rfl; (with_reducible repeat (first | refine blk_drewN ?_ _ | refine blk_drew ?_ | refine blk_alloc ?_ _)); refine blk_put (cs := #[.int .i64 0, .int .i64 0]) ?_ 0 _ rfl; (with_reducible repeat (first | refine blk_drewN ?_ _ | refine blk_drew ?_ | refine blk_alloc ?_ _)); refine blk_far ?_ NB983_982.out _; (with_reducible repeat (first | refine blk_drewN ?_ _ | refine blk_drew ?_ | refine blk_alloc ?_ _)); refine blk_far ?_ NB983_982.out _; (with_reducible repeat (first | refine blk_drewN ?_ _ | refine blk_drew ?_ | refine blk_alloc ?_ _)); exact BK983.out⟩
            have n5_ : Aside0 (Below w.heap.size w ((((w81.setCell ⟨gb982, 0, none⟩ (.int .i64 t974)).setCell ⟨gb982, 1, none⟩ (.slice Ao85 t975.length co85)).setCell ⟨gb983, 0, none⟩ (.int .i64 t979)).setCell ⟨gb983, 1, none⟩ (.int .i64 t980))) := ⟨by repeat (first | (with_reducible first | exact HB.out | apply below_alloc | apply pw_below_drewN | apply below_drew1 | refine below_set ?_ GE967.out | refine below_set ?_ GE982.out | refine below_set ?_ GE983.out) | exact HB.out)⟩
            (try clear HO_5)
            (try clear HO977)
            (try clear BK967)
            (try clear BK982)
            (try clear BK983)
            (try clear HB)
            generalize ((((w81.setCell ⟨gb982, 0, none⟩ (.int .i64 t974)).setCell ⟨gb982, 1, none⟩ (.slice Ao85 t975.length co85)).setCell ⟨gb983, 0, none⟩ (.int .i64 t979)).setCell ⟨gb983, 1, none⟩ (.int .i64 t980)) = w88 at n0_ n1_ n2_ n3_ n4_ n5_ ⊢
            have HO_5 := n0_
            have HO977 := n1_
            have BK967 := n2_
            have BK982 := n3_
            have BK983 := n4_
            have HB := n5_
            clear n0_ n1_ n2_ n3_ n4_ n5_
            have n0_ := Aside0.mk (Kd.S_drew HO_5.out)
            have n1_ := Aside0.mk (Kd.R_drew HO977.out)
            have n2_ := Aside0.mk (blk_drew BK967.out)
            have n3_ := Aside0.mk (blk_drew BK982.out)
            have n4_ := Aside0.mk (blk_drew BK983.out)
            have n5_ := Aside0.mk (below_drew1 HB.out)
            clear HO_5
            clear HO977
            clear BK967
            clear BK982
            clear BK983
            clear HB
            have HO_5 := n0_
            have HO977 := n1_
            have BK967 := n2_
            have BK982 := n3_
            have BK983 := n4_
            have HB := n5_
            clear n0_ n1_ n2_ n3_ n4_ n5_
            refine start_ (n := 5) (S := fun w' => w'.cell? ⟨gb983, 0, none⟩ = some (.int .i64 t979) ∧ w'.cell? ⟨gb983, 1, none⟩ = some (.int .i64 t980)) (ds := []) #[false, false, false, false, false] (by kernel_rfl) rfl rfl ⟨(blk_cell BK983.out 0).trans rfl, (blk_cell BK983.out 1).trans rfl⟩ (fun hHeld => ?_)
            generalize w88.drew = w89 at HO_5 HO977 BK967 BK982 BK983 HB hHeld ⊢
            refine pure_ (i := 0) (N := some 71) (v := ?_) (a' := ?_) #[true, false, false, false, false] rfl rfl (by kernel_rfl) (fun _ _ _ h => h) (Or.inl ⟨by rfl, ?_⟩) ?_ ?_
            rotate_left
            ·intro w'
             go_simp
             with_reducible rfl
            rotate_left
            ·simp only [Act.put, List.setIfInBounds_toArray, List.set_cons_zero, List.set_cons_succ, i64_w, i32_w]
             rfl
            refine pure_ (i := 2) (N := some 2) (v := ?_) (a' := ?_) #[true, false, true, false, false] rfl rfl (by kernel_rfl) (fun _ _ _ h => h) (Or.inl ⟨by rfl, ?_⟩) ?_ ?_
            rotate_left
            ·intro w'
             go_simp
             with_reducible rfl
            rotate_left
            ·simp only [Act.put, List.setIfInBounds_toArray, List.set_cons_zero, List.set_cons_succ, i64_w, i32_w]
             rfl
            refine pure_ (i := 3) (N := some 3) (v := ?_) (a' := ?_) #[true, false, true, true, false] rfl rfl (by kernel_rfl) (fun _ _ _ h => h) (Or.inl ⟨by rfl, ?_⟩) ?_ ?_
            rotate_left
            ·intro w'
             go_simp
             with_reducible rfl
            rotate_left
            ·simp only [Act.put, List.setIfInBounds_toArray, List.set_cons_zero, List.set_cons_succ, i64_w, i32_w]
             rfl
            refine take_ (i := 1) (N := some 72) (v := ?_) (a' := ?_) #[true, true, true, true, false] rfl rfl (by kernel_rfl) (fun _ _ _ h => h) (Or.inl ⟨by rfl, ?_⟩) hHeld ?_ ?_
            rotate_left
            ·rintro w' ⟨s0, s1⟩
             go_simp
             with_reducible rfl
            rotate_left
            ·simp only [Act.put, List.setIfInBounds_toArray, List.set_cons_zero, List.set_cons_succ, i64_w, i32_w]
             rfl
            refine one_ (i := 4) (N := none) #[true, true, true, true, true] rfl rfl (by kernel_rfl) (by decide) (fun K hK => ?_)
            have hs90 : w89.cell? ⟨gb967, 0, none⟩ = some (.int .i64 x968000_3) := (blk_cell BK967.out 0).trans rfl
            have hfs90 := blk_frozen BK967.out 0
            have hns90_1 := NB982_967.out
            have hns90_2 := NB983_967.out
            have hms90_1 := NB967_982.out
            have hms90_2 := NB967_983.out
            have hs91 : w89.cell? ⟨gb967, 1, none⟩ = some (.int .i64 x968001_3) := (blk_cell BK967.out 1).trans rfl
            have hfs91 := blk_frozen BK967.out 1
            have hns91_1 := NB982_967.out
            have hns91_2 := NB983_967.out
            have hms91_1 := NB967_982.out
            have hms91_2 := NB967_983.out
            refine skip_ (w1 := ?_) (by rfl) rfl ?_ ?_
            rotate_left
            ·go_simp
             rfl
            refine hK.out _ _ ⟨((cell_far (p := ⟨gb967, _, none⟩) NB983_967.out _).trans (((cell_far (p := ⟨gb967, _, none⟩) NB983_967.out _).trans (hHeld.1)))), ((cell_far (p := ⟨gb967, _, none⟩) NB983_967.out _).trans (((cell_far (p := ⟨gb967, _, none⟩) NB983_967.out _).trans (hHeld.2))))⟩ (fun hHeld => ?_)
            clear hK K
            refine done_ (by kernel_rfl) ?_
            try go_wp2
            refine bodyPost_ret (results_list (rs := [.tmp 2, .tmp 3, .cell 4 65]) rfl (by simp) (.tmp (.tmp (.cell gb967 65 #[.int .i64 t979, .int .i64 t980] (0, 0) _ rfl (by (with_reducible repeat (first | refine blk_drewN ?_ _ | refine blk_drew ?_ | refine blk_alloc ?_ _)); refine blk_put (cs := #[.int .i64 t979, .int .i64 x968001_3]) ?_ 1 _ rfl; (with_reducible repeat (first | refine blk_drewN ?_ _ | refine blk_drew ?_ | refine blk_alloc ?_ _)); refine blk_put (cs := #[.int .i64 x968000_3, .int .i64 x968001_3]) ?_ 0 _ rfl; (with_reducible repeat (first | refine blk_drewN ?_ _ | refine blk_drew ?_ | refine blk_alloc ?_ _)); exact BK967.out) Try.underlying65 rfl (by kernel_rfl) .nil)))) rfl ?_
            exact ⟨_, by first | rfl | (simp [errW_none, errW_some] <;> rfl) | (simp [*, errW_none, errW_some] <;> rfl), by (with_reducible repeat (first | apply Kd.S_alloc | apply Kd.S_drewN | apply Kd.S_drew)); exact Kd.S_mono (Kd.S_far (p := ⟨gb967, 1, none⟩) (Kd.S_far (p := ⟨gb967, 0, none⟩) (Kd.S_types HO_5.out BK967.out (by decide)) (fun _ hk => hk.2) (.int .i64 t979)) (fun _ hk => hk.2) (.int .i64 t980)) (fun _ hk => trivial), by repeat (first | (with_reducible first | exact HB.out | apply below_alloc | apply pw_below_drewN | apply below_drew1 | refine below_set ?_ GE967.out | refine below_set ?_ GE982.out | refine below_set ?_ GE983.out) | exact HB.out)⟩
theorem nxt_shape (b : List Int) (at_ : Nat) (l : List S131) (hl : l.length ≤ 300) (hb : ∀ x ∈ b, 0 ≤ x ∧ x ≤ 255) :
  (∃ c p, nxt b at_ l = (false, c, p, at_, l) ∧ c ≠ 0) ∨ nxt b at_ l = (true, 0, 0, at_ + 2, l) ∨
   (∃ m d n2, nxt b at_ l = (false, 0, 0, n2, l ++ [⟨m, d⟩]) ∧ 0 ≤ m ∧ m ≤ 247 ∧ l.length < 300 ∧ (m = 0 → b.drop n2 = [] ∨ ∃ t, b.drop n2 = 255 :: t)) := by
 have hm0' : 0 ≤ markM (b.drop at_) := by
  unfold markM
  split
  ·exact Int.le_refl _
  ·have e1 := rd_drop b at_ 1
   rw [show ((1 : Nat) : Int) = 1 from rfl] at e1
   rw [e1]
   by_cases h : at_ + 1 < b.length
   ·rw [rd_nat b _ h]; exact (hb _ (List.getElem_mem h)).1
   ·have : rd b ((at_ + 1 : Nat) : Int) = 0 := by unfold rd; rw [Int.toNat_natCast]; simp [List.getD, List.getElem?_eq_none (show b.length ≤ at_ + 1 by omega)]
    rw [this]; exact Int.le_refl _
 unfold nxt
 by_cases he : b.drop at_ = [] ∨ b.drop at_ = [255]
 ·rw [if_pos he]; exact .inl ⟨3, _, rfl, by decide⟩
 rw [if_neg he]
 by_cases h254 : markM (b.drop at_) = 254
 ·rw [if_pos h254]; exact .inr (.inl rfl)
 rw [if_neg h254]
 by_cases hbd : badM (markM (b.drop at_)) l = true
 ·rw [if_pos hbd]; exact .inl ⟨4, _, rfl, by decide⟩
 rw [if_neg hbd]
 have h247 : markM (b.drop at_) ≤ 247 := by
  have : badM (markM (b.drop at_)) l = false := by simpa using hbd
  unfold badM at this
  simp at this
  omega
 by_cases h3 : l.length = 300
 ·rw [if_pos h3]; exact .inl ⟨6, _, rfl, by decide⟩
 rw [if_neg h3]
 by_cases hm0 : markM (b.drop at_) = 0
 ·rw [if_pos hm0]
  by_cases h20 : 20000 < (un (b.drop at_)).1.length
  ·rw [if_pos h20]; exact .inl ⟨5, _, rfl, by decide⟩
  ·rw [if_neg h20]
   refine .inr (.inr ⟨0, _, _, rfl, by decide, by decide, by omega, fun _ => ?_⟩)
   have := un_end (b.drop at_)
   rw [List.drop_drop] at this
   exact this
 rw [if_neg hm0]
 by_cases hi : isRest (markM (b.drop at_)) = true
 ·rw [if_pos hi]; exact .inr (.inr ⟨_, _, _, rfl, hm0', h247, by omega, fun h => absurd h hm0⟩)
 rw [if_neg hi]
 by_cases h4 : (b.drop at_).length < 4
 ·rw [if_pos h4]; exact .inl ⟨3, _, rfl, by decide⟩
 rw [if_neg h4]
 by_cases h20 : 20000 < lenM (b.drop at_)
 ·rw [if_pos h20]; exact .inl ⟨5, _, rfl, by decide⟩
 rw [if_neg h20]
 by_cases h4n : ((b.drop at_).length : Int) < 4 + lenM (b.drop at_)
 ·rw [if_pos h4n]; exact .inl ⟨3, _, rfl, by decide⟩
 rw [if_neg h4n]
 exact .inr (.inr ⟨_, _, _, rfl, hm0', h247, by omega, fun h => absurd h hm0⟩)
theorem kindL_snoc (l : List S131) (s : S131) : kindL (l ++ [s]) = kindM s.f0 := by unfold kindL; simp
theorem kindM_three {m : Int} (h : kindM m = 3) : m = 0 := by
 unfold kindM at h
 split at h
 ·assumption
 ·split at h
  ·cases h
  ·split at h <;> cases h
theorem marks_snoc {l : List S131} (h : MarksOk l) (m : Int) (d : List Int) (h0 : 0 ≤ m) (h1 : m ≤ 247) : MarksOk (l ++ [⟨m, d⟩]) := by
 intro s hs
 rcases List.mem_append.1 hs with hs | hs
 ·exact h s hs
 ·rw [List.mem_singleton.1 hs]; exact ⟨h0, h1⟩
theorem rest_three {l : List S131} (h : MarksOk l) (hr : mayRestM l = true) : kindL l = 3 := by
 rw [rest_kind h] at hr
 simpa [fitsM] using hr
theorem soFar_loop (b : List Int) (hb : ∀ x ∈ b, 0 ≤ x ∧ x ≤ 255) (hlen : b.length ≤ 60000) : ∀ (n at_ : Nat) (l : List S131), at_ ≤ b.length → l.length ≤ 300 → MarksOk l → b.length < at_ + n → ¬ (kindL l = 3 ∧ b.length - at_ < 2) →
  Ev (fun k => spec_SegsSoFar.l0 k b l (at_ : Int) (kindL l)) (sfI b n at_ l) := by
 intro n
 induction n with
 | zero => intro at_ l h1 _ _ h4; omega
 | succ n ih =>
  intro at_ l hat hl hM hfu hok
  obtain ⟨f1, f2, f3⟩ := nxt_facts b at_ l hat hl
  refine Ev.step (fun _ => by rw [spec_SegsSoFar.l0]) (Ev.bind (next_spec b at_ l hat hlen hb hM) ?_)
  unfold nxtS sfI
  rcases nxt_shape b at_ l hl hb with ⟨c, p, hn, hc⟩ | hn | ⟨m, d, n2, hn, hm0, hm1, hl3, hend⟩
  ·rw [hn]
   simp only []
   rw [if_pos hc]
   by_cases h3 : c = 3
   ·subst h3
    rw [if_pos rfl, if_neg (fun h => hok ⟨rest_three hM h.1, h.2⟩)]
    exact Ev.ip rfl (Ev.now _)
   ·rw [if_neg h3, if_pos hc]
    exact Ev.ng h3 (Ev.ng hc (Ev.now _))
  ·rw [hn] at f1 ⊢
   simp only [] at f1 ⊢
   rw [if_neg (by decide), if_pos trivial, if_neg (by decide), if_neg (by decide), if_pos trivial]
   refine Ev.ng (by show ¬ ((0 : Int) = 3); decide) (Ev.ip rfl (Ev.ip rfl ?_))
   refine Ev.step (fun _ => by rw [spec_SegsSoFar.j3]) ?_
   by_cases hlt : at_ + 2 < b.length
   ·rw [if_pos hlt]
    exact Ev.ip (decide_eq_true (by simp only []; omega)) (Ev.now _)
   ·rw [if_neg hlt]
    exact Ev.ng (by simp only [decide_eq_true_eq]; omega) (Ev.ip rfl (Ev.now _))
  ·rw [hn] at f1 f2 f3 ⊢
   simp only [] at f1 f2 f3 ⊢
   have f4 := f3 trivial trivial
   rw [if_neg (by decide), if_neg (by decide), if_neg (by decide), if_neg (by decide), if_neg (by decide)]
   refine Ev.ng (by show ¬ ((0 : Int) = 3); decide) (Ev.ip rfl (Ev.ng (by show ¬ (false = true); decide) ?_))
   refine Ev.step (fun _ => by rw [spec_SegsSoFar.j3]) (Ev.ng (by show ¬ (false = true); decide) (Ev.ng (by simp) ?_))
   have hg : (l ++ [(⟨m, d⟩ : S131)]).getLastD z131 = ⟨m, d⟩ := by simp
   rw [hg]
   simp only []
   have hsn := kindL_snoc l ⟨m, d⟩
   have hMs := marks_snoc hM m d hm0 hm1
   by_cases hmz : m = 0
   ·refine Ev.ip hmz ?_
    rw [wrap_succ n2 (by omega)]
    by_cases hge : b.length ≤ n2 + 1
    ·refine Ev.ip (by omega) (Ev.eq (Ev.now _) ?_)
     have hr : b.drop n2 = [] ∨ b.drop n2 = [255] := by
      rcases hend hmz with h | ⟨t, h⟩
      ·exact .inl h
      ·refine .inr ?_
       have hl2 := congrArg List.length h
       simp at hl2
       have : t = [] := List.eq_nil_of_length_eq_zero (by omega)
       rw [h, this]
     cases n with
     | zero => omega
     | succ n =>
      have hx : nxt b n2 (l ++ [⟨m, d⟩]) = (false, 3, (b.length : Int), n2, l ++ [⟨m, d⟩]) := by unfold nxt; rw [if_pos hr]
      unfold sfI
      rw [hx]
      simp only []
      rw [if_pos trivial, if_pos ⟨by rw [rest_kind hMs, hsn, hmz]; rfl, by omega⟩]
      simp
    ·refine Ev.ng (by omega) (Ev.ip (by omega) (Ev.bind (Ev.c (kind_val m)) ?_))
     rw [← hsn]
     exact ih n2 _ f1 f2 hMs (by omega) (fun h => by omega)
   ·refine Ev.ng hmz (Ev.ip (by omega) (Ev.bind (Ev.c (kind_val m)) ?_))
    rw [← hsn]
    exact ih n2 _ f1 f2 hMs (by omega) (fun h => hmz (kindM_three (hsn ▸ h.1)))
theorem soFar_spec (b : List Int) (hb : ∀ x ∈ b, 0 ≤ x ∧ x ≤ 255) (hlen : b.length ≤ 1048576) : Ev (fun k => spec_SegsSoFar.f k b) (soFarM b) := by
 unfold spec_SegsSoFar.f soFarM
 refine Ev.bind (Ev.c rfl) ?_
 by_cases h1 : 60000 < b.length
 ·rw [if_pos h1]; exact Ev.ip (by omega) (Ev.now _)
 rw [if_neg h1]
 refine Ev.ng (by omega) ?_
 by_cases h0 : b.length = 0
 ·rw [if_pos (.inl h0)]
  exact Ev.ip (by omega) (Ev.step (fun _ => by rw [spec_SegsSoFar.j0]) (Ev.ip rfl (Ev.now _)))
 refine Ev.ng (by omega) ?_
 by_cases hl1 : b.length = 1
 ·refine Ev.ip (by omega) (Ev.ip (by omega) (Ev.step (fun _ => by rw [spec_SegsSoFar.j0]) ?_))
  by_cases h84 : rd b 0 = 84
  ·rw [if_pos (.inr ⟨hl1, h84⟩)]
   exact Ev.ip (by rw [h84]; rfl) (Ev.now _)
  ·rw [if_neg (fun h => h.elim h0 (fun h => h84 h.2)), if_pos (.inl (by omega))]
   exact Ev.ng (by simpa using h84) (Ev.ip (by omega) (Ev.step (fun _ => by rw [spec_SegsSoFar.j1]) (Ev.ip rfl (Ev.now _))))
 ·rw [if_neg (fun h => h.elim h0 (fun h => hl1 h.1))]
  refine Ev.ng (by omega) (Ev.step (fun _ => by rw [spec_SegsSoFar.j0]) (Ev.ng (by decide) (Ev.ng (by omega) (Ev.ip (by omega) ?_))))
  by_cases h84 : rd b 0 = 84
  ·refine Ev.ip h84 (Ev.ip (by omega) (Ev.step (fun _ => by rw [spec_SegsSoFar.j1]) ?_))
   by_cases h83 : rd b 1 = 83
   ·rw [if_neg (by rw [h84, h83]; simp; omega)]
    refine Ev.ng (by rw [h83]; decide) ?_
    have := soFar_loop b hb (by omega) (b.length + 1) 2 [] (by omega) (by simp) (fun s hs => by simp at hs) (by omega) (fun h => by simp [kindL] at h)
    exact this
   ·rw [if_pos (.inr (.inr h83))]
    exact Ev.ip (by simp [h83]) (Ev.now _)
  ·rw [if_pos (.inr (.inl h84))]
   exact Ev.ng h84 (Ev.step (fun _ => by rw [spec_SegsSoFar.j1]) (Ev.ip rfl (Ev.now _)))
end Go.Proofs.Ytcjjmfpkhhdmlaa.G

namespace Go.Proofs.Ytcjjmfpkhhdmlaa.G
open Go.RowKit Go.Proofs.YtcjjmfpkhhdmlaaW.PrintWords Go.Proofs.YtcjjmfpkhhdmlaaW.PrintLast Go.Proofs.YtcjjmfpkhhdmlaaW.PrintMore
attribute [local go_sem] max2_int min2_int max_two min_two max_three min_three max_four min_four   -- for this text's walks alone
/-! ### spec_l20Tell: function 138 -/
def spec_l20Tell.f (k : Nat) (l0 : List Int) : Option (List Int × Int × Bool × Int × Int) := if (l0.length : Int) > 60000 then (some (([] : List Int), 0, false, 1, 0)) else ((spec_SegsSoFar.f k l0).bind fun bt1021 => ((some (([] : List Int) : List Int)).bind fun y1028 => (if y1028.length + l0.length < 140737488355328 then (some ((y1028 ++ l0), (bt1021.1.length : Int), bt1021.2.1, bt1021.2.2.1, bt1021.2.2.2)) else (none))))
theorem spec_l20Tell.mono : ∀ a0 k, LeO (spec_l20Tell.f k a0) (spec_l20Tell.f (k + 1) a0) := by
 intro a0 k
 unfold spec_l20Tell.f
 repeat' first
   | (with_reducible exact spec_SegsSoFar.mono _ _)
   | (with_reducible exact LeO.refl _)
   | (with_reducible exact LeO.none _)
   | (with_reducible refine LeO.ite ?_ ?_)
   | (with_reducible refine LeO.bind ?_ (fun _ => ?_))
   | exact spec_SegsSoFar.mono _ _
   | exact LeO.none _
   | refine LeO.ite ?_ ?_
   | refine LeO.bind ?_ (fun _ => ?_)
def spec_l20Tell.T4 : Bool × List (List Nat × List Nat) := (true, [([], []), ([], []), ([0, 1], [0, 1]), ([], []), ([3], [3]), ([], []), ([], []), ([2, 4, 5, 6], [2, 4, 5, 6]), ([7, 2, 0, 1, 2, 3, 4, 5, 6, 7], [7])])
def spec_l20Tell.B4 : List Nat := [0, 0, 3, 0, 8, 0, 0, 127, 255]
theorem spec_l20Tell.tab4 : rtab .any (opsOf Try.f138 4) = spec_l20Tell.T4 := by kernel_rfl
theorem spec_l20Tell.bits4 : waitsOk spec_l20Tell.T4.2 spec_l20Tell.B4 = true := by kernel_rfl
set_option maxHeartbeats 8000000 in
set_option maxRecDepth 100000 in
theorem spec_l20Tell.calls (k : Nat) (A0 : Option Addr) (c0 : Nat) (l0 : List Int) (r1 : List Int) (r2 : Int) (r3 : Bool) (r4 : Int) (r5 : Int) (w : World) (hr0 : Kd.C (Kd.int .u8) w A0 l0.length l0) (hc0 : l0.length ≤ c0) (h : spec_l20Tell.f k l0 = some (r1, r2, r3, r4, r5)) :
  Calls Try.prog 138 #[.slice A0 l0.length c0] w fun e w' => ∃ v0_ : Value, e = .returned (.agg #[v0_, .int .i64 r2, .bool r3, .int .i64 r4, .int .i64 r5]) ∧ Kd.R (Kd.int .u8) 5 w' w.heap.size (fun _ => True) v0_ r1 ∧ Below w.heap.size w w' := by
 have hu77 := Try.underlying77
 have hu65 := Try.underlying65
 have HR0 := Aside0.mk hr0
 have HC0 := Aside0.mk hc0
 clear hr0 hc0
 have HB := Aside0.mk (Below.refl w.heap.size w)
 have H : (if (l0.length : Int) > 60000 then (some (([] : List Int), 0, false, 1, 0)) else ((spec_SegsSoFar.f k l0).bind fun bt1021 => ((some (([] : List Int) : List Int)).bind fun y1028 => (if y1028.length + l0.length < 140737488355328 then (some ((y1028 ++ l0), (bt1021.1.length : Int), bt1021.2.1, bt1021.2.2.1, bt1021.2.2.2)) else (none))))) = some (r1, r2, r3, r4, r5) := h
 clear h
 by_cases c2 : (l0.length : Int) > 60000
 ·rw [if_pos c2] at H
  have c2b0 : decide (60000 < (l0.length : Int)) = true := decide_eq_true c2
  have c2b1 : decide (60000 < l0.length) = true := decide_eq_true (by omega)
  clear c2
  simp only [Option.some.injEq, Prod.mk.injEq] at H
  obtain ⟨rfl, rfl, rfl, rfl, rfl⟩ := H
  go_enter Try.func138, Try.ntmps138
  go_wp2_with (first | ((with_reducible refine gate_dst (N := 2) rfl ?_); refine box_event ?hg (N := 2) ?hd (cs := #[.slice none 0 0, .int .i64 0, .bool false, .int .i64 0, .int .i64 0]) (t := 77) ?hr ?_; (case hd => rfl); (case hg => rfl); (case hr => first | (go_simp; done) | (go_simp; rfl)); intro gb1020 hg w3 hbox hb; have n0_ := Aside0.mk (below_step (by repeat (first | (with_reducible first | exact HB.out | apply below_alloc | apply pw_below_drewN | apply below_drew1) | exact HB.out)) hb); have n1_ := Aside0.mk (hbox); have n2_ := Aside0.mk ((by rw [hg]; exact (below_size (by repeat (first | (with_reducible first | exact HB.out | apply below_alloc | apply pw_below_drewN | apply below_drew1) | exact HB.out))) : w.heap.size ≤ gb1020)); have n3_ := Aside0.mk ((by rw [hg]; exact (below_size (by repeat (first | (with_reducible first | exact HB.out | apply below_alloc | apply pw_below_drewN | apply below_drew1) | exact HB.out))) : w.heap.size ≤ gb1020)); clear HB; have HB := n0_; have BK1020 := n1_; have GW1020 := n2_; have GE1020 := n3_; clear n0_ n1_ n2_ n3_; clear hb hbox hg; have hcz4_0 : w3.cell? ⟨gb1020, 0, none⟩ = some (.slice none 0 0) := (blk_cell BK1020.out 0).trans rfl; have hcz4_1 : w3.cell? ⟨gb1020, 1, none⟩ = some (.int .i64 0) := (blk_cell BK1020.out 1).trans rfl; have hcz4_2 : w3.cell? ⟨gb1020, 2, none⟩ = some (.bool false) := (blk_cell BK1020.out 2).trans rfl; have hcz4_3 : w3.cell? ⟨gb1020, 3, none⟩ = some (.int .i64 0) := (blk_cell BK1020.out 3).trans rfl; have hcz4_4 : w3.cell? ⟨gb1020, 4, none⟩ = some (.int .i64 0) := (blk_cell BK1020.out 4).trans rfl; have hfz4_0 := blk_frozen BK1020.out 0; have hfz4_1 := blk_frozen BK1020.out 1; have hfz4_2 := blk_frozen BK1020.out 2; have hfz4_3 := blk_frozen BK1020.out 3; have hfz4_4 := blk_frozen BK1020.out 4))
  refine bodyPost_ret (results_cell_row rfl _ _ gb1020 77 #[.slice none 0 0, .int .i64 0, .bool false, .int .i64 1, .int .i64 0] (0, 0) _ rfl (by (with_reducible repeat (first | refine blk_drewN ?_ _ | refine blk_drew ?_ | refine blk_alloc ?_ _)); refine blk_put (cs := #[.slice none 0 0, .int .i64 0, .bool false, .int .i64 1, .int .i64 0]) ?_ 4 _ rfl; (with_reducible repeat (first | refine blk_drewN ?_ _ | refine blk_drew ?_ | refine blk_alloc ?_ _)); refine blk_put (cs := #[.slice none 0 0, .int .i64 0, .bool false, .int .i64 0, .int .i64 0]) ?_ 3 _ rfl; (with_reducible repeat (first | refine blk_drewN ?_ _ | refine blk_drew ?_ | refine blk_alloc ?_ _)); refine blk_put (cs := #[.slice none 0 0, .int .i64 0, .bool false, .int .i64 0, .int .i64 0]) ?_ 2 _ rfl; (with_reducible repeat (first | refine blk_drewN ?_ _ | refine blk_drew ?_ | refine blk_alloc ?_ _)); refine blk_put (cs := #[.slice none 0 0, .int .i64 0, .bool false, .int .i64 0, .int .i64 0]) ?_ 1 _ rfl; (with_reducible repeat (first | refine blk_drewN ?_ _ | refine blk_drew ?_ | refine blk_alloc ?_ _)); refine blk_put (cs := #[.slice none 0 0, .int .i64 0, .bool false, .int .i64 0, .int .i64 0]) ?_ 0 _ rfl; (with_reducible repeat (first | refine blk_drewN ?_ _ | refine blk_drew ?_ | refine blk_alloc ?_ _)); exact BK1020.out) Try.underlying77 rfl (by kernel_rfl)) rfl ?_
  exact ⟨_, by first | rfl | (simp [errW_none, errW_some] <;> rfl) | (simp [*, errW_none, errW_some] <;> rfl), by first | exact Kd.R_nil _ _ _ _ _ | exact Kd.N_nil _ _ _ _ _ | exact Kd.V_nil _ _ _ _ _ | exact Kd.Q_nil _ _ _ _ _ | exact Kd.S_nil _ _ _ _ _, by repeat (first | (with_reducible first | exact HB.out | apply below_alloc | apply pw_below_drewN | apply below_drew1 | refine below_set ?_ GE1020.out) | exact HB.out)⟩
 ·rw [if_neg c2] at H
  have c2b0 : decide (60000 < (l0.length : Int)) = false := decide_eq_false c2
  have c2b1 : decide (60000 < l0.length) = false := decide_eq_false (by omega)
  clear c2
  replace H := Option.bind_eq_some_iff.mp H
  obtain ⟨⟨t1021, t1024, t1025, t1026⟩, A50, H⟩ := H
  replace H : ((some (([] : List Int) : List Int)).bind fun y1028 => (if y1028.length + l0.length < 140737488355328 then (some ((y1028 ++ l0), (t1021.length : Int), t1024, t1025, t1026)) else (none))) = some (r1, r2, r3, r4, r5) := H
  have A5 := Aside0.mk A50
  clear A50
  obtain ⟨y1028, hy1028⟩ : ∃ y_ : List Int, y_ = (([] : List Int)) := ⟨_, rfl⟩
  replace H : (if y1028.length + l0.length < 140737488355328 then (some ((y1028 ++ l0), (t1021.length : Int), t1024, t1025, t1026)) else (none)) = some (r1, r2, r3, r4, r5) := by first | (rw [hy1028]; with_reducible exact H) | (have H2_ := (Option.bind_some _ _).symm.trans H; rw [hy1028]; with_reducible exact H2_) | (have H2_ := (Option.bind_some _ _).symm.trans H; with_reducible exact H2_) | with_reducible exact H | (rw [hy1028]; exact H) | exact H
  have Ny1028 := Aside0.mk hy1028
  clear hy1028
  by_cases c6 : y1028.length + l0.length < 140737488355328
  ·rw [if_pos c6] at H
   have LMc6 := Aside0.mk c6
   clear c6
   obtain ⟨y1031, hy1031⟩ : ∃ y_ : List Int, y_ = (y1028 ++ l0) := ⟨_, rfl⟩
   replace H : (some (y1031, (t1021.length : Int), t1024, t1025, t1026)) = some (r1, r2, r3, r4, r5) := by first | (rw [hy1031]; with_reducible exact H) | (have H2_ := (Option.bind_some _ _).symm.trans H; rw [hy1031]; with_reducible exact H2_) | (have H2_ := (Option.bind_some _ _).symm.trans H; with_reducible exact H2_) | with_reducible exact H | (rw [hy1031]; exact H) | exact H
   have Ny1031 := Aside0.mk hy1031
   clear hy1031
   simp only [Option.some.injEq, Prod.mk.injEq] at H
   obtain ⟨rfl, rfl, rfl, rfl, rfl⟩ := H
   go_enter Try.func138, Try.ntmps138
   try go_wp2_with (first | ((with_reducible refine gate_dst (N := 2) rfl ?_); refine box_event ?hg (N := 2) ?hd (cs := #[.slice none 0 0, .int .i64 0, .bool false, .int .i64 0, .int .i64 0]) (t := 77) ?hr ?_; (case hd => rfl); (case hg => rfl); (case hr => first | (go_simp; done) | (go_simp; rfl)); intro gb1020 hg w7 hbox hb; have n0_ := Aside0.mk (below_step (by repeat (first | (with_reducible first | exact HB.out | apply below_alloc | apply pw_below_drewN | apply below_drew1) | exact HB.out)) hb); have n1_ := Aside0.mk (hbox); have n2_ := Aside0.mk ((by rw [hg]; exact (below_size (by repeat (first | (with_reducible first | exact HB.out | apply below_alloc | apply pw_below_drewN | apply below_drew1) | exact HB.out))) : w.heap.size ≤ gb1020)); have n3_ := Aside0.mk ((by rw [hg]; exact (below_size (by repeat (first | (with_reducible first | exact HB.out | apply below_alloc | apply pw_below_drewN | apply below_drew1) | exact HB.out))) : w.heap.size ≤ gb1020)); clear HB; have HB := n0_; have BK1020 := n1_; have GW1020 := n2_; have GE1020 := n3_; clear n0_ n1_ n2_ n3_; clear hb hbox hg) | ((with_reducible refine gate_callee (f := 58) rfl ?_); refine goesL_ (some 13) rfl rfl Try.func58 (by kernel_rfl) rfl #[.slice A0 l0.length c0] rfl (by (try simp only [List.map_toArray, List.map_cons, List.map_nil]); first | done | rfl | (simp only [List.length_drop, List.length_take]; rfl)) ?_; (with_reducible refine (spec_SegsSoFar.calls k _ _ l0 t1021 t1024 t1025 t1026 _ ?side1 ?side2 A5.out).mono ?_); (case side1 => repeat (first | exact (Kd.C_below HR0.out HB.out) | (with_reducible refine Kd.C_alloc ?_ _) | (with_reducible refine Kd.C_drewN ?_ _) | (with_reducible refine Kd.C_drew ?_))); (case side2 => exact HC0.out); rintro e w8 ⟨v1022, rfl, ho0, hb⟩; refine ⟨_, rfl, ?_⟩; have n0_ := Aside0.mk (Kd.S_lower ho0 (below_size (by repeat (first | (with_reducible first | exact HB.out | apply below_alloc | apply pw_below_drewN | apply below_drew1 | refine below_set ?_ GE1020.out) | exact HB.out)))); have n1_ := Aside0.mk (blk_below (g := gb1020) (o := .cells #[.slice none 0 0, .int .i64 0, .bool false, .int .i64 0, .int .i64 0] 77 (0, 0)) (by (with_reducible repeat (first | refine blk_drewN ?_ _ | refine blk_drew ?_ | refine blk_alloc ?_ _)); exact BK1020.out) hb); have n2_ := Aside0.mk (below_step (by repeat (first | (with_reducible first | exact HB.out | apply below_alloc | apply pw_below_drewN | apply below_drew1 | refine below_set ?_ GE1020.out) | exact HB.out)) hb); clear BK1020; clear HB; have HO1023 := n0_; have BK1020 := n1_; have HB := n2_; clear n0_ n1_ n2_; (try clear hb); (try clear hb2); (try clear hk); (try clear hi); (try clear ho0)) | ((with_reducible refine gate_dst (N := 5) rfl ?_); refine box_event ?hg (N := 5) ?hd (cs := #[.int .i64 0, .int .i64 0]) (t := 65) ?hr ?_; (case hd => rfl); (case hg => rfl); (case hr => first | (go_simp; done) | (go_simp; rfl)); intro gb1027 hg w9 hbox hb; have n0_ := Aside0.mk (Kd.S_below (by (with_reducible repeat (first | apply Kd.S_alloc | apply Kd.S_drewN | apply Kd.S_drew)); exact HO1023.out) hb); have n1_ := Aside0.mk (blk_below (g := gb1020) (o := .cells #[.slice none 0 0, .int .i64 0, .bool false, .int .i64 0, .int .i64 0] 77 (0, 0)) (by (with_reducible repeat (first | refine blk_drewN ?_ _ | refine blk_drew ?_ | refine blk_alloc ?_ _)); exact BK1020.out) hb); have n2_ := Aside0.mk (below_step (by repeat (first | (with_reducible first | exact HB.out | apply below_alloc | apply pw_below_drewN | apply below_drew1 | refine below_set ?_ GE1020.out) | exact HB.out)) hb); have n3_ := Aside0.mk (hbox); have n4_ := Aside0.mk ((by rw [hg]; exact (below_size (by repeat (first | (with_reducible first | exact HB.out | apply below_alloc | apply pw_below_drewN | apply below_drew1 | refine below_set ?_ GE1020.out) | exact HB.out))) : w.heap.size ≤ gb1027)); have n5_ := Aside0.mk ((by rw [hg]; exact (below_size (by repeat (first | (with_reducible first | exact HB.out | apply below_alloc | apply pw_below_drewN | apply below_drew1 | refine below_set ?_ GE1020.out) | exact HB.out))) : w.heap.size ≤ gb1027)); have n6_ := Aside0.mk ((by rw [hg]; exact Nat.ne_of_lt (blk_lt (g := gb1020) (o := .cells #[.slice none 0 0, .int .i64 0, .bool false, .int .i64 0, .int .i64 0] 77 (0, 0)) (by (with_reducible repeat (first | refine blk_drewN ?_ _ | refine blk_drew ?_ | refine blk_alloc ?_ _)); exact BK1020.out)) : gb1020 ≠ gb1027)); have n7_ := Aside0.mk ((by rw [hg]; exact Nat.ne_of_gt (blk_lt (g := gb1020) (o := .cells #[.slice none 0 0, .int .i64 0, .bool false, .int .i64 0, .int .i64 0] 77 (0, 0)) (by (with_reducible repeat (first | refine blk_drewN ?_ _ | refine blk_drew ?_ | refine blk_alloc ?_ _)); exact BK1020.out)) : gb1027 ≠ gb1020)); clear HO1023; clear BK1020; clear HB; have HO1023 := n0_; have BK1020 := n1_; have HB := n2_; have BK1027 := n3_; have GW1027 := n4_; have GE1027 := n5_; have NB1020_1027 := n6_; have NB1027_1020 := n7_; clear n0_ n1_ n2_ n3_ n4_ n5_ n6_ n7_; clear hb hbox hg; have hnb10 := NB1027_1020.out; have hnc10 := NB1020_1027.out; have hcz11_0 : w9.cell? ⟨gb1027, 0, none⟩ = some (.int .i64 0) := (blk_cell BK1027.out 0).trans rfl; have hcz11_1 : w9.cell? ⟨gb1027, 1, none⟩ = some (.int .i64 0) := (blk_cell BK1027.out 1).trans rfl; have hfz11_0 := blk_frozen BK1027.out 0; have hfz11_1 := blk_frozen BK1027.out 1))
   have n0_ : Aside0 (Kd.S k131 131 ((w9.setCell ⟨gb1027, 0, none⟩ (.int .i64 t1025)).setCell ⟨gb1027, 1, none⟩ (.int .i64 t1026)) w.heap.size (fun _ => True) v1022 t1021) := ⟨by (with_reducible repeat (first | apply Kd.S_alloc | apply Kd.S_drewN | apply Kd.S_drew)); exact Kd.S_mono (Kd.S_far (p := ⟨gb1027, 1, none⟩) (Kd.S_far (p := ⟨gb1027, 0, none⟩) (Kd.S_types HO1023.out BK1027.out (by decide)) (fun _ hk => hk.2) (.int .i64 t1025)) (fun _ hk => hk.2) (.int .i64 t1026)) (fun _ hk => trivial)⟩
   have n1_ : Aside0 (((w9.setCell ⟨gb1027, 0, none⟩ (.int .i64 t1025)).setCell ⟨gb1027, 1, none⟩ (.int .i64 t1026)).heap[gb1020]? = some (.cells #[.slice none 0 0, .int .i64 0, .bool false, .int .i64 0, .int .i64 0] 77 (0, 0))) := ⟨by (with_reducible repeat (first | refine blk_drewN ?_ _ | refine blk_drew ?_ | refine blk_alloc ?_ _)); refine blk_far ?_ NB1020_1027.out _; (with_reducible repeat (first | refine blk_drewN ?_ _ | refine blk_drew ?_ | refine blk_alloc ?_ _)); refine blk_far ?_ NB1020_1027.out _; (with_reducible repeat (first | refine blk_drewN ?_ _ | refine blk_drew ?_ | refine blk_alloc ?_ _)); exact BK1020.out⟩
   have n2_ : Aside0 (((w9.setCell ⟨gb1027, 0, none⟩ (.int .i64 t1025)).setCell ⟨gb1027, 1, none⟩ (.int .i64 t1026)).heap[gb1027]? = some (.cells #[.int .i64 t1025, .int .i64 t1026] 65 (0, 0))) := ⟨by (with_reducible repeat (first | refine blk_drewN ?_ _ | refine blk_drew ?_ | refine blk_alloc ?_ _)); refine blk_put (cs := #[.int .i64 t1025, .int .i64 0]) ?_ 1 _ rfl; (with_reducible repeat (first | refine blk_drewN ?_ _ | refine blk_drew ?_ | refine blk_alloc ?_ _)); refine blk_put (cs := #[.int .i64 0, .int .i64 0]) ?_ 0 _ rfl; (with_reducible repeat (first | refine blk_drewN ?_ _ | refine blk_drew ?_ | refine blk_alloc ?_ _)); exact BK1027.out⟩
   have n3_ : Aside0 (Below w.heap.size w ((w9.setCell ⟨gb1027, 0, none⟩ (.int .i64 t1025)).setCell ⟨gb1027, 1, none⟩ (.int .i64 t1026))) := ⟨by repeat (first | (with_reducible first | exact HB.out | apply below_alloc | apply pw_below_drewN | apply below_drew1 | refine below_set ?_ GE1020.out | refine below_set ?_ GE1027.out) | exact HB.out)⟩
   (try clear HO1023)
   (try clear BK1020)
   (try clear BK1027)
   (try clear HB)
   generalize ((w9.setCell ⟨gb1027, 0, none⟩ (.int .i64 t1025)).setCell ⟨gb1027, 1, none⟩ (.int .i64 t1026)) = w12 at n0_ n1_ n2_ n3_ ⊢
   have HO1023 := n0_
   have BK1020 := n1_
   have BK1027 := n2_
   have HB := n3_
   clear n0_ n1_ n2_ n3_
   have n0_ := Aside0.mk (Kd.S_drew HO1023.out)
   have n1_ := Aside0.mk (blk_drew BK1020.out)
   have n2_ := Aside0.mk (blk_drew BK1027.out)
   have n3_ := Aside0.mk (below_drew1 HB.out)
   clear HO1023
   clear BK1020
   clear BK1027
   clear HB
   have HO1023 := n0_
   have BK1020 := n1_
   have BK1027 := n2_
   have HB := n3_
   clear n0_ n1_ n2_ n3_
   obtain ⟨Ao14, co14, eo14⟩ := Kd.S_slice HO1023.out
   (first | subst eo14 | (injection eo14 with f1_ f2_ f3_; have f4_ := f1_.symm; have f5_ := f3_.symm; clear f1_ f2_ f3_; subst f4_; subst f5_))
   refine start_ (n := 9) (S := fun w' => w'.cell? ⟨gb1027, 0, none⟩ = some (.int .i64 t1025) ∧ w'.cell? ⟨gb1027, 1, none⟩ = some (.int .i64 t1026)) (ds := []) #[false, false, false, false, false, false, false, false, false] (by kernel_rfl) rfl rfl ⟨(blk_cell BK1027.out 0).trans rfl, (blk_cell BK1027.out 1).trans rfl⟩ (fun hHeld => ?_); refine with_tabW spec_l20Tell.tab4 spec_l20Tell.bits4 (fun HT_ HW_ => ?_)
   generalize w12.drew = w13 at HO1023 BK1020 BK1027 HB hHeld ⊢
   refine pure_ (i := 1) (N := some 18) (v := ?_) (a' := ?_) #[false, true, false, false, false, false, false, false, false] rfl rfl (any_of HT_.out (by kernel_rfl)) (fun _ _ _ h => h) (Or.inl ⟨by rfl, ?_⟩) ?_ ?_
   rotate_left
   ·intro w'
    go_simp
    with_reducible rfl
   rotate_left
   ·simp only [Act.put, List.setIfInBounds_toArray, List.set_cons_zero, List.set_cons_succ, i64_w, i32_w]
    rfl
   refine pure_ (i := 3) (N := some 20) (v := ?_) (a' := ?_) #[false, true, false, true, false, false, false, false, false] rfl rfl (any_of HT_.out (by kernel_rfl)) (fun _ _ _ h => h) (Or.inl ⟨by rfl, ?_⟩) ?_ ?_
   rotate_left
   ·intro w'
    go_simp
    with_reducible rfl
   rotate_left
   ·simp only [Act.put, List.setIfInBounds_toArray, List.set_cons_zero, List.set_cons_succ, i64_w, i32_w]
    rfl
   refine pure_ (i := 4) (N := some 21) (v := ?_) (a' := ?_) #[false, true, false, true, true, false, false, false, false] rfl rfl (any_of HT_.out (by kernel_rfl)) (fun _ _ _ h => h) (Or.inl ⟨by rfl, ?_⟩) ?_ ?_
   rotate_left
   ·intro w'
    go_simp
    with_reducible rfl
   rotate_left
   ·simp only [Act.put, List.setIfInBounds_toArray, List.set_cons_zero, List.set_cons_succ, i64_w, i32_w]
    rfl
   refine pure_ (i := 5) (N := some 22) (v := ?_) (a' := ?_) #[false, true, false, true, true, true, false, false, false] rfl rfl (any_of HT_.out (by kernel_rfl)) (fun _ _ _ h => h) (Or.inl ⟨by rfl, ?_⟩) ?_ ?_
   rotate_left
   ·intro w'
    go_simp
    with_reducible rfl
   rotate_left
   ·simp only [Act.put, List.setIfInBounds_toArray, List.set_cons_zero, List.set_cons_succ, i64_w, i32_w]
    rfl
   refine take_ (i := 6) (N := some 23) (v := ?_) (a' := ?_) #[false, true, false, true, true, true, true, false, false] rfl rfl (take_ofW HT_.out HW_.out (by kernel_rfl)) (fun _ _ _ h => h) (Or.inl ⟨by rfl, ?_⟩) hHeld ?_ ?_
   rotate_left
   ·rintro w' ⟨s0, s1⟩
    go_simp
    with_reducible rfl
   rotate_left
   ·simp only [Act.put, List.setIfInBounds_toArray, List.set_cons_zero, List.set_cons_succ, i64_w, i32_w]
    rfl
   refine one_ (i := 0) (N := some 17) #[true, true, false, true, true, true, true, false, false] rfl rfl (one_of HT_.out (by kernel_rfl)) (by decide) (fun K hK => ?_)
   refine Kd.R_lit_step (Kd.int .u8) _ 5 ?hg (N := 17) ?hd (xs := ([] : List Int)) (inner := []) (ok := fun _ => True) (okp := fun _ => True) ?hr ?hp (fun _ hk => hk) trivial (Below.refl _ _) (Nat.le_refl _) (by simp) ?_; (case hd => rfl); (case hg => rfl); (case hr => first | (go_simp; done) | (go_simp; rfl)); (case hp => exact (Reps.none _ _))
   intro v1029 w15 ho16 hb hg_ hnew_
   clear hg_ hnew_
   (first | rw [← Ny1028.out] at ho16 | (simp only [Int.reduceToNat] at ho16; rw [← Ny1028.out] at ho16))
   have n0_ := Aside0.mk (Kd.S_elder' (by (with_reducible repeat (first | apply Kd.S_alloc | apply Kd.S_drewN | apply Kd.S_drew)); exact HO1023.out) (Kd.R_base ho16) hb)
   have n1_ := Aside0.mk (Kd.R_lower ho16 (below_size (by repeat (first | (with_reducible first | exact HB.out | apply below_alloc | apply pw_below_drewN | apply below_drew1 | refine below_set ?_ GE1020.out | refine below_set ?_ GE1027.out) | exact HB.out))))
   have n2_ := Aside0.mk (blk_below (g := gb1020) (o := .cells #[.slice none 0 0, .int .i64 0, .bool false, .int .i64 0, .int .i64 0] 77 (0, 0)) (by (with_reducible repeat (first | refine blk_drewN ?_ _ | refine blk_drew ?_ | refine blk_alloc ?_ _)); exact BK1020.out) hb)
   have n3_ := Aside0.mk (blk_below (g := gb1027) (o := .cells #[.int .i64 t1025, .int .i64 t1026] 65 (0, 0)) (by (with_reducible repeat (first | refine blk_drewN ?_ _ | refine blk_drew ?_ | refine blk_alloc ?_ _)); exact BK1027.out) hb)
   have n4_ := Aside0.mk (below_step (by repeat (first | (with_reducible first | exact HB.out | apply below_alloc | apply pw_below_drewN | apply below_drew1 | refine below_set ?_ GE1020.out | refine below_set ?_ GE1027.out) | exact HB.out)) hb)
   clear HO1023
   clear BK1020
   clear BK1027
   clear HB
   have HO1023 := n0_
   have HO1030 := n1_
   have BK1020 := n2_
   have BK1027 := n3_
   have HB := n4_
   clear n0_ n1_ n2_ n3_ n4_
   clear hb ho16
   refine hK.out _ _ ⟨(blk_cell BK1027.out 0).trans rfl, (blk_cell BK1027.out 1).trans rfl⟩ (fun hHeld => ?_)
   clear hK K
   refine norm_ (a' := ?_) ?_ ?_
   rotate_left
   ·show Act.put _ (some 17) _ = _
    simp only [Act.put, List.setIfInBounds_toArray, List.set_cons_zero, List.set_cons_succ, i64_w, i32_w]
    rfl
   refine one_ (i := 2) (N := some 19) #[true, true, true, true, true, true, true, false, false] rfl rfl (one_of HT_.out (by kernel_rfl)) (by decide) (fun K hK => ?_)
   refine Kd.R_append_rows_step (Kd.int .u8) (w0 := w) w.heap.size (by rfl) (.tmp 17) (.tmp 18) 23 5 (.int .u8 0) 1 rfl Try.underlying23 info5 rfl (by decide) (by omega) v1029 y1028 l0 _ _ _ (fun _ => True) (fun _ => False) rfl rfl ?aO ?aR (fun _ _ h => h) (fun _ h => h.elim) ?aF ?aB ?aS ?aL ?_
   (case aR => repeat (first | exact (Kd.C_below HR0.out HB.out) | (with_reducible refine Kd.C_alloc ?_ _) | (with_reducible refine Kd.C_drewN ?_ _) | (with_reducible refine Kd.C_drew ?_)))
   (case aB => exact (by repeat (first | (with_reducible first | exact HB.out | apply below_alloc | apply pw_below_drewN | apply below_drew1 | refine below_set ?_ GE1020.out | refine below_set ?_ GE1027.out) | exact HB.out)))
   (case aF => exact (fun _ _ => trivial))
   (case aO => exact (by (with_reducible repeat (first | apply Kd.R_alloc | apply Kd.R_drewN | apply Kd.R_drew)); exact HO1030.out))
   (case aS => exact (below_size (by repeat (first | (with_reducible first | exact HB.out | apply below_alloc | apply pw_below_drewN | apply below_drew1 | refine below_set ?_ GE1020.out | refine below_set ?_ GE1027.out) | exact HB.out))))
   (case aL => have := LMc6.out; omega)
   intro v1032 w17 ho hb hg hat
   rw [← Ny1031.out] at ho
   have n0_ := Aside0.mk (blk_grown (g := gb1020) (o := .cells #[.slice none 0 0, .int .i64 0, .bool false, .int .i64 0, .int .i64 0] 77 (0, 0)) (by (with_reducible repeat (first | refine blk_drewN ?_ _ | refine blk_drew ?_ | refine blk_alloc ?_ _)); exact BK1020.out) hg (Kd.R_ne HO1030.out BK1020.out (by decide)))
   have n1_ := Aside0.mk (Kd.S_after (ok := (fun _ => True)) (by (with_reducible repeat (first | apply Kd.S_alloc | apply Kd.S_drewN | apply Kd.S_drew)); exact HO1023.out) hg hat)
   have n2_ := Aside0.mk (blk_grown (g := gb1027) (o := .cells #[.int .i64 t1025, .int .i64 t1026] 65 (0, 0)) (by (with_reducible repeat (first | refine blk_drewN ?_ _ | refine blk_drew ?_ | refine blk_alloc ?_ _)); exact BK1027.out) hg (Kd.R_ne HO1030.out BK1027.out (by decide)))
   have n3_ := Aside0.mk (hb)
   have n4_ := Aside0.mk (ho)
   clear BK1020
   clear HO1023
   clear BK1027
   clear HB
   clear HO1030
   have BK1020 := n0_
   have HO1023 := n1_
   have BK1027 := n2_
   have HB := n3_
   have HO1033 := n4_
   clear n0_ n1_ n2_ n3_ n4_
   clear ho hb hg hat
   obtain ⟨Ao18, co18, eo18⟩ := Kd.R_slice HO1033.out
   (first | subst eo18 | (injection eo18 with f1_ f2_ f3_; have f4_ := f1_.symm; have f5_ := f3_.symm; clear f1_ f2_ f3_; subst f4_; subst f5_))
   refine hK.out _ _ ⟨(blk_cell BK1027.out 0).trans rfl, (blk_cell BK1027.out 1).trans rfl⟩ (fun hHeld => ?_)
   clear hK K
   refine norm_ (a' := ?_) ?_ ?_
   rotate_left
   ·show Act.put _ (some 19) _ = _
    simp only [Act.put, List.setIfInBounds_toArray, List.set_cons_zero, List.set_cons_succ, i64_w, i32_w]
    rfl
   refine pure_ (i := 7) (N := some 24) (v := ?_) (a' := ?_) #[true, true, true, true, true, true, true, true, false] rfl rfl (any_of HT_.out (by kernel_rfl)) (fun _ _ _ h => h) (Or.inl ⟨by rfl, ?_⟩) ?_ ?_
   rotate_left
   ·intro w'
    go_simp
    with_reducible rfl
   rotate_left
   ·simp only [Act.put, List.setIfInBounds_toArray, List.set_cons_zero, List.set_cons_succ, i64_w, i32_w]
    rfl
   refine one_ (i := 8) (N := none) #[true, true, true, true, true, true, true, true, true] rfl rfl (one_of HT_.out (by kernel_rfl)) (by decide) (fun K hK => ?_)
   have hs19 : w17.cell? ⟨gb1020, 0, none⟩ = some (.slice none 0 0) := (blk_cell BK1020.out 0).trans rfl
   have hfs19 := blk_frozen BK1020.out 0
   have hns19_1 := NB1027_1020.out
   have hms19_1 := NB1020_1027.out
   have hs20 : w17.cell? ⟨gb1020, 1, none⟩ = some (.int .i64 0) := (blk_cell BK1020.out 1).trans rfl
   have hfs20 := blk_frozen BK1020.out 1
   have hns20_1 := NB1027_1020.out
   have hms20_1 := NB1020_1027.out
   have hs21 : w17.cell? ⟨gb1020, 2, none⟩ = some (.bool false) := (blk_cell BK1020.out 2).trans rfl
   have hfs21 := blk_frozen BK1020.out 2
   have hns21_1 := NB1027_1020.out
   have hms21_1 := NB1020_1027.out
   have hs22 : w17.cell? ⟨gb1020, 3, none⟩ = some (.int .i64 0) := (blk_cell BK1020.out 3).trans rfl
   have hfs22 := blk_frozen BK1020.out 3
   have hns22_1 := NB1027_1020.out
   have hms22_1 := NB1020_1027.out
   have hs23 : w17.cell? ⟨gb1020, 4, none⟩ = some (.int .i64 0) := (blk_cell BK1020.out 4).trans rfl
   have hfs23 := blk_frozen BK1020.out 4
   have hns23_1 := NB1027_1020.out
   have hms23_1 := NB1020_1027.out
   refine skip_ (w1 := ?_) (by rfl) rfl ?_ ?_
   rotate_left
   ·go_simp
    rfl
   refine hK.out _ _ ⟨((cell_far (p := ⟨gb1020, _, none⟩) NB1027_1020.out _).trans (((cell_far (p := ⟨gb1020, _, none⟩) NB1027_1020.out _).trans (((cell_far (p := ⟨gb1020, _, none⟩) NB1027_1020.out _).trans (((cell_far (p := ⟨gb1020, _, none⟩) NB1027_1020.out _).trans (((cell_far (p := ⟨gb1020, _, none⟩) NB1027_1020.out _).trans (hHeld.1)))))))))), ((cell_far (p := ⟨gb1020, _, none⟩) NB1027_1020.out _).trans (((cell_far (p := ⟨gb1020, _, none⟩) NB1027_1020.out _).trans (((cell_far (p := ⟨gb1020, _, none⟩) NB1027_1020.out _).trans (((cell_far (p := ⟨gb1020, _, none⟩) NB1027_1020.out _).trans (((cell_far (p := ⟨gb1020, _, none⟩) NB1027_1020.out _).trans (hHeld.2))))))))))⟩ (fun hHeld => ?_)
   clear hK K
   refine done_ (done_of HT_.out (by kernel_rfl)) ?_
   try go_wp2
   refine bodyPost_ret (results_cell_row rfl _ _ gb1020 77 #[.slice Ao18 y1031.length co18, .int .i64 (t1021.length : Int), .bool t1024, .int .i64 t1025, .int .i64 t1026] (0, 0) _ rfl (by (with_reducible repeat (first | refine blk_drewN ?_ _ | refine blk_drew ?_ | refine blk_alloc ?_ _)); refine blk_put (cs := #[.slice Ao18 y1031.length co18, .int .i64 (t1021.length : Int), .bool t1024, .int .i64 t1025, .int .i64 0]) ?_ 4 _ rfl; (with_reducible repeat (first | refine blk_drewN ?_ _ | refine blk_drew ?_ | refine blk_alloc ?_ _)); refine blk_put (cs := #[.slice Ao18 y1031.length co18, .int .i64 (t1021.length : Int), .bool t1024, .int .i64 0, .int .i64 0]) ?_ 3 _ rfl; (with_reducible repeat (first | refine blk_drewN ?_ _ | refine blk_drew ?_ | refine blk_alloc ?_ _)); refine blk_put (cs := #[.slice Ao18 y1031.length co18, .int .i64 (t1021.length : Int), .bool false, .int .i64 0, .int .i64 0]) ?_ 2 _ rfl; (with_reducible repeat (first | refine blk_drewN ?_ _ | refine blk_drew ?_ | refine blk_alloc ?_ _)); refine blk_put (cs := #[.slice Ao18 y1031.length co18, .int .i64 0, .bool false, .int .i64 0, .int .i64 0]) ?_ 1 _ rfl; (with_reducible repeat (first | refine blk_drewN ?_ _ | refine blk_drew ?_ | refine blk_alloc ?_ _)); refine blk_put (cs := #[.slice none 0 0, .int .i64 0, .bool false, .int .i64 0, .int .i64 0]) ?_ 0 _ rfl; (with_reducible repeat (first | refine blk_drewN ?_ _ | refine blk_drew ?_ | refine blk_alloc ?_ _)); exact BK1020.out) Try.underlying77 rfl (by kernel_rfl)) rfl ?_
   exact ⟨_, by first | rfl | (simp [errW_none, errW_some] <;> rfl) | (simp [*, errW_none, errW_some] <;> rfl), by (with_reducible repeat (first | apply Kd.R_alloc | apply Kd.R_drewN | apply Kd.R_drew)); exact Kd.R_mono (Kd.R_far (p := ⟨gb1020, 4, none⟩) (Kd.R_far (p := ⟨gb1020, 3, none⟩) (Kd.R_far (p := ⟨gb1020, 2, none⟩) (Kd.R_far (p := ⟨gb1020, 1, none⟩) (Kd.R_far (p := ⟨gb1020, 0, none⟩) (Kd.R_types HO1033.out BK1020.out (by decide)) (fun _ hk => hk.2) (.slice Ao18 y1031.length co18)) (fun _ hk => hk.2) (.int .i64 (t1021.length : Int))) (fun _ hk => hk.2) (.bool t1024)) (fun _ hk => hk.2) (.int .i64 t1025)) (fun _ hk => hk.2) (.int .i64 t1026)) (fun _ hk => trivial), by repeat (first | (with_reducible first | exact HB.out | apply below_alloc | apply pw_below_drewN | apply below_drew1 | refine below_set ?_ GE1020.out | refine below_set ?_ GE1027.out) | exact HB.out)⟩
  ·rw [if_neg c6] at H
   exact absurd H (by simp)
theorem spec_l20Tell.ev (l : List Int) (hb : isB l = true) (hl : l.length ≤ 60000) : Ev (fun k => spec_l20Tell.f k l) (l, (feedM l).1, (feedM l).2.1, (feedM l).2.2.1, (feedM l).2.2.2) := by
 unfold spec_l20Tell.f feedM
 rw [if_neg (by omega)]
 refine Ev.ng (by omega) (Ev.bind (soFar_spec l (isB_all hb) (by omega)) (Ev.bind (Ev.c rfl) (Ev.ip (by simp; omega) (Ev.eq (Ev.now _) (by simp)))))
end Go.Proofs.Ytcjjmfpkhhdmlaa.G

namespace Go.Proofs.Ytcjjmfpkhhdmlaa.G
open Go.RowKit Go.Proofs.YtcjjmfpkhhdmlaaW.PrintWords Go.Proofs.YtcjjmfpkhhdmlaaW.PrintLast Go.Proofs.YtcjjmfpkhhdmlaaW.PrintMore
attribute [local go_sem] max2_int min2_int max_two min_two max_three min_three max_four min_four   -- for this text's walks alone
theorem eqA65 (d : Nat) (w : World) (x0 y0 : Int) (x1 y1 : Int) :
  (Op.equalIn (d + 2) 65 (.agg #[.int .i64 x0, .int .i64 x1]) (.agg #[.int .i64 y0, .int .i64 y1])).run Try.prog w = .ok (x0 == y0 && (x1 == y1)) w := by
 refine eqA_of Try.underlying65 (by kernel_rfl) ?_
 refine eqf_cons (by rfl) (by go_simp; rfl) (by go_simp; rfl) (by go_simp) ?_
 exact eqf_last (by rfl) (by go_simp; rfl) (by go_simp; rfl) (by go_simp)
end Go.Proofs.Ytcjjmfpkhhdmlaa.G

namespace Go.Proofs.Ytcjjmfpkhhdmlaa.G
open Go.RowKit Go.Proofs.YtcjjmfpkhhdmlaaW.PrintWords Go.Proofs.YtcjjmfpkhhdmlaaW.PrintLast Go.Proofs.YtcjjmfpkhhdmlaaW.PrintMore
attribute [local go_sem] max2_int min2_int max_two min_two max_three min_three max_four min_four   -- for this text's walks alone
/-! ### impl_FeedOk: function 67 -/
--import Derived.BigRegion
attribute [local go_sem high] eqA65
/-- a feed is right -/
def feedOkM (l : List Int) (n : Int) (o : Bool) (fc fa : Int) : Bool :=
 if fc = 1 then (decide (l.length = 0) && decide (n = 0) && !o && decide (fa = 0)) else if 60000 < l.length then false
 else (decide (n = (feedM l).1) && (o == (feedM l).2.1) && (decide (fc = (feedM l).2.2.1) && decide (fa = (feedM l).2.2.2)))
def impl_FeedOk.f (l0 : List Int) (a1 : Int) (a2 : Bool) (a3 a4 : Int) : Option Bool := if isB l0 ∧ l0.length ≤ 1048576 then some (feedOkM l0 a1 a2 a3 a4) else none
set_option maxRecDepth 100000 in
set_option maxHeartbeats 4000000 in
theorem impl_FeedOk.calls (A0_0 : Option Addr) (c0_0 : Nat) (l0_0 : List Int) (a0_1 : Int) (a0_2 : Bool) (a0_3 : Int) (a0_4 : Int) (r : Bool) (w : World) (hr0_0 : Kd.C (Kd.int .u8) w A0_0 l0_0.length l0_0) (hc0_0 : l0_0.length ≤ c0_0) (h : impl_FeedOk.f l0_0 a0_1 a0_2 a0_3 a0_4 = some r) :
  Calls Try.prog 67 #[.agg #[.slice A0_0 l0_0.length c0_0, .int .i64 a0_1, .bool a0_2, .int .i64 a0_3, .int .i64 a0_4]] w fun e w' => e = .returned (.bool r) ∧ Below w.heap.size w w' := by
 unfold impl_FeedOk.f at h
 split at h
 ·rename_i hcond
  obtain ⟨hbb, hlen⟩ := hcond
  have HBB := Aside0.mk hbb
  have HH := Aside0.mk (Option.some.inj h)
  have HR0 := Aside0.mk hr0_0
  have HC0 := Aside0.mk hc0_0
  clear h hr0_0 hc0_0 hbb
  go_enter Try.func67, Try.ntmps67
  go_upto_region 1 with (fail)
  have hq := blk_new w (Obj.cells #[.slice A0_0 l0_0.length c0_0, .int .i64 a0_1, .bool a0_2, .int .i64 a0_3, .int .i64 a0_4] 77)
  have HB1 := Aside0.mk (below_alloc (Below.refl w.heap.size w) (Obj.cells #[.slice A0_0 l0_0.length c0_0, .int .i64 a0_1, .bool a0_2, .int .i64 a0_3, .int .i64 a0_4] 77))
  generalize hgqe : w.heap.size = gq at hq ⊢
  generalize w.alloc (Obj.cells #[.slice A0_0 l0_0.length c0_0, .int .i64 a0_1, .bool a0_2, .int .i64 a0_3, .int .i64 a0_4] 77) = W1 at hq HB1 ⊢
  have HQ := Aside0.mk hq
  have q0 := blk_cell hq 0
  have q1 := blk_cell hq 1
  have q2 := blk_cell hq 2
  have q3 := blk_cell hq 3
  have q4 := blk_cell hq 4
  simp at q0 q1 q2 q3 q4
  clear hq hgqe
  by_cases h1 : a0_3 = 1
  ·subst h1
   have HE := Aside0.mk (show (decide (l0_0.length = 0) && decide (a0_1 = 0) && !a0_2 && decide (a0_4 = 0)) = r by have := HH.out; rwa [feedOkM, if_pos rfl] at this)
   clear HH
   by_cases hL : l0_0.length = 0
   ·have z1 : ((l0_0.length : Int) == 0) = true := by rw [beq_iff_eq]; omega
    have hL' := Aside0.mk hL
    clear hL
    by_cases hn : a0_1 = 0
    ·subst hn
     cases a0_2 with
     | true =>
      go_wp2
      go_ret
      refine ⟨?_, HB1.out⟩
      have := HE.out
      rw [hL'.out] at this
      simp at this
      rw [← this]; rfl
     | false =>
      go_wp2
      go_ret
      refine ⟨?_, HB1.out⟩
      have := HE.out
      rw [hL'.out] at this
      simp at this
      rw [← this]; rfl
    ·have z2 : (a0_1 == 0) = false := by rw [beq_eq_false_iff_ne]; exact hn
     go_wp2
     go_ret
     refine ⟨?_, HB1.out⟩
     have := HE.out
     simp [hn] at this
     rw [← this]; rfl
   ·have z1 : ((l0_0.length : Int) == 0) = false := by rw [beq_eq_false_iff_ne]; omega
    go_wp2
    go_ret
    refine ⟨?_, HB1.out⟩
    have := HE.out
    rw [decide_eq_false hL] at this
    simp at this
    rw [← this]; rfl
  ·have z3 : (a0_3 == 1) = false := by rw [beq_eq_false_iff_ne]; exact h1
   by_cases h60 : 60000 < l0_0.length
   ·have z4 : decide ((60000 : Int) < (l0_0.length : Int)) = true := decide_eq_true (by omega)
    have hr := HH.out
    rw [feedOkM, if_neg h1, if_pos h60] at hr
    subst hr
    go_wp2
    go_ret
    exact ⟨rfl, HB1.out⟩
   ·have z4 : decide ((60000 : Int) < (l0_0.length : Int)) = false := decide_eq_false (by omega)
    have HE := Aside0.mk (show (decide (a0_1 = (feedM l0_0).1) && (a0_2 == (feedM l0_0).2.1) && (decide (a0_3 = (feedM l0_0).2.2.1) && decide (a0_4 = (feedM l0_0).2.2.2))) = r by have := HH.out; rwa [feedOkM, if_neg h1, if_neg h60] at this)
    have HHX := HE.out
    clear HH HE
    obtain ⟨m1, hm1⟩ : ∃ q, q = (feedM l0_0).1 := ⟨_, rfl⟩
    obtain ⟨m2, hm2⟩ : ∃ q, q = (feedM l0_0).2.1 := ⟨_, rfl⟩
    obtain ⟨m3, hm3⟩ : ∃ q, q = (feedM l0_0).2.2.1 := ⟨_, rfl⟩
    obtain ⟨m4, hm4⟩ : ∃ q, q = (feedM l0_0).2.2.2 := ⟨_, rfl⟩
    rw [← hm1, ← hm2, ← hm3, ← hm4] at HHX
    have HE := Aside0.mk HHX
    clear HHX
    go_wp2_with fail
    refine (feedOf_calls A0_0 c0_0 l0_0 _ (Kd.C_below HR0.out HB1.out) HC0.out HBB.out (by omega)).mono ?_
    rintro e_ w2 ⟨rfl, hb2⟩
    rw [← hm1, ← hm2, ← hm3, ← hm4]
    have HQ2 := Aside0.mk (blk_below HQ.out hb2)
    have HB2 := Aside0.mk (Below.trans HB1.out (hb2.mono HB1.out.size))
    clear hb2 hm1 hm2 hm3 hm4 q0 q1 q2 q3 q4
    go_upto_region 6 with (fail)
    have hf := blk_new w2 (Obj.cells #[.slice A0_0 l0_0.length c0_0, .int .i64 m1, .bool m2, .int .i64 m3, .int .i64 m4] 77)
    have HQ3 := Aside0.mk (blk_alloc HQ2.out (Obj.cells #[.slice A0_0 l0_0.length c0_0, .int .i64 m1, .bool m2, .int .i64 m3, .int .i64 m4] 77))
    have HB3 := Aside0.mk (below_alloc HB2.out (Obj.cells #[.slice A0_0 l0_0.length c0_0, .int .i64 m1, .bool m2, .int .i64 m3, .int .i64 m4] 77))
    generalize w2.heap.size = gf at hf ⊢
    generalize w2.alloc (Obj.cells #[.slice A0_0 l0_0.length c0_0, .int .i64 m1, .bool m2, .int .i64 m3, .int .i64 m4] 77) = W4 at hf HQ3 HB3 ⊢
    have p1 := blk_cell hf 1
    have p2 := blk_cell hf 2
    have p3 := blk_cell hf 3
    have p4 := blk_cell hf 4
    simp at p1 p2 p3 p4
    have q1 := blk_cell HQ3.out 1
    have q2 := blk_cell HQ3.out 2
    have q3 := blk_cell HQ3.out 3
    have q4 := blk_cell HQ3.out 4
    simp at q1 q2 q3 q4
    clear hf
    by_cases hn : a0_1 = m1
    ·subst hn
     by_cases ho : a0_2 = m2
     ·subst ho
      go_wp2
      go_ret
      refine ⟨?_, HB3.out⟩
      have := HE.out
      simp only [decide_true, beq_self_eq_true, Bool.true_and] at this
      rw [← this]; rfl
     ·have zo : (a0_2 == m2) = false := by rw [beq_eq_false_iff_ne]; exact ho
      go_wp2
      go_ret
      refine ⟨?_, HB3.out⟩
      have := HE.out
      rw [zo] at this
      simp only [Bool.and_false, Bool.false_and] at this
      rw [← this]; rfl
    ·have zn : (a0_1 == m1) = false := by rw [beq_eq_false_iff_ne]; exact hn
     go_wp2
     go_ret
     refine ⟨?_, HB3.out⟩
     have := HE.out
     simp [hn] at this
     rw [← this]; rfl
 ·cases h
end Go.Proofs.Ytcjjmfpkhhdmlaa.G

namespace Go.Proofs.Ytcjjmfpkhhdmlaa.G
open Go.RowKit Go.Proofs.YtcjjmfpkhhdmlaaW.PrintWords Go.Proofs.YtcjjmfpkhhdmlaaW.PrintLast Go.Proofs.YtcjjmfpkhhdmlaaW.PrintMore
attribute [local go_sem] max2_int min2_int max_two min_two max_three min_three max_four min_four   -- for this text's walks alone
attribute [local go_sem high] eqA65
/-! ### spec_FeedOk: function 65 -/
def spec_FeedOk.f (k : Nat) (l0_0 : List Int) (a0_1 : Int) (a0_2 : Bool) (a0_3 : Int) (a0_4 : Int) : Option (Bool) := if a0_3 = 1 then (if a0_4 = 0 then (if (l0_0.length : Int) = 0 then (if a0_1 = 0 then (some (!a0_2)) else (some false)) else (some false)) else (some false)) else (if (l0_0.length : Int) > 60000 then (some false) else ((spec_l20Tell.f k l0_0).bind fun bt1035 => (if bt1035.2.1 = a0_1 then (if (bt1035.2.2.1 == a0_2) = true then (some (bt1035.2.2.2.1 == a0_3 && (bt1035.2.2.2.2 == a0_4))) else (some false)) else (some false))))
theorem spec_FeedOk.mono : ∀ a0 a1 a2 a3 a4 k, LeO (spec_FeedOk.f k a0 a1 a2 a3 a4) (spec_FeedOk.f (k + 1) a0 a1 a2 a3 a4) := by
 intro a0 a1 a2 a3 a4 k
 unfold spec_FeedOk.f
 repeat' first
   | (with_reducible exact spec_l20Tell.mono _ _)
   | (with_reducible exact LeO.refl _)
   | (with_reducible exact LeO.none _)
   | (with_reducible refine LeO.ite ?_ ?_)
   | (with_reducible refine LeO.bind ?_ (fun _ => ?_))
   | exact spec_l20Tell.mono _ _
   | exact LeO.none _
   | refine LeO.ite ?_ ?_
   | refine LeO.bind ?_ (fun _ => ?_)
set_option maxHeartbeats 8000000 in
set_option maxRecDepth 100000 in
theorem spec_FeedOk.calls (k : Nat) (A0_0 : Option Addr) (c0_0 : Nat) (l0_0 : List Int) (a0_1 : Int) (a0_2 : Bool) (a0_3 : Int) (a0_4 : Int) (r : Bool) (w : World) (hr0_0 : Kd.C (Kd.int .u8) w A0_0 l0_0.length l0_0) (hc0_0 : l0_0.length ≤ c0_0) (h : spec_FeedOk.f k l0_0 a0_1 a0_2 a0_3 a0_4 = some r) :
  Calls Try.prog 65 #[.agg #[.slice A0_0 l0_0.length c0_0, .int .i64 a0_1, .bool a0_2, .int .i64 a0_3, .int .i64 a0_4]] w fun e w' => e = .returned (.bool r) ∧ Below w.heap.size w w' := by
 have hu77 := Try.underlying77
 have hu65 := Try.underlying65
 have HR0_0 := Aside0.mk hr0_0
 have HC0_0 := Aside0.mk hc0_0
 clear hr0_0 hc0_0
 have HB := Aside0.mk (Below.refl w.heap.size w)
 have H : (if a0_3 = 1 then (if a0_4 = 0 then (if (l0_0.length : Int) = 0 then (if a0_1 = 0 then (some (!a0_2)) else (some false)) else (some false)) else (some false)) else (if (l0_0.length : Int) > 60000 then (some false) else ((spec_l20Tell.f k l0_0).bind fun bt1035 => (if bt1035.2.1 = a0_1 then (if (bt1035.2.2.1 == a0_2) = true then (some (bt1035.2.2.2.1 == a0_3 && (bt1035.2.2.2.2 == a0_4))) else (some false)) else (some false))))) = some r := h
 clear h
 by_cases c2 : a0_3 = 1
 ·rw [if_pos c2] at H
  have c2b0 : (a0_3 == 1) = true := beq_iff_eq.mpr c2
  have c2b1 : (a0_3 != 1) = false := bne_eq_false_iff_eq.mpr c2
  clear c2
  by_cases c3 : a0_4 = 0
  ·rw [if_pos c3] at H
   have c3b0 : (a0_4 == 0) = true := beq_iff_eq.mpr c3
   have c3b1 : (a0_4 != 0) = false := bne_eq_false_iff_eq.mpr c3
   clear c3
   by_cases c4 : (l0_0.length : Int) = 0
   ·rw [if_pos c4] at H
    have c4b0 : ((l0_0.length : Int) == 0) = true := beq_iff_eq.mpr c4
    have c4b1 : ((l0_0.length : Int) != 0) = false := bne_eq_false_iff_eq.mpr c4
    clear c4
    by_cases c5 : a0_1 = 0
    ·rw [if_pos c5] at H
     have c5b0 : (a0_1 == 0) = true := beq_iff_eq.mpr c5
     have c5b1 : (a0_1 != 0) = false := bne_eq_false_iff_eq.mpr c5
     clear c5
     obtain rfl := Option.some.inj H
     go_enter Try.func65, Try.ntmps65
     go_wp2_with (first | ((with_reducible refine gate_dst (N := 1) rfl ?_); (try (refine gate_guard (by rfl) ?_; dsimp only)); refine box_event ?hg (N := 1) ?hd (cs := #[.slice A0_0 l0_0.length c0_0, .int .i64 a0_1, .bool a0_2, .int .i64 a0_3, .int .i64 a0_4]) (t := 77) ?hr ?_; (case hd => rfl); (case hg => rfl); (case hr => first | (go_simp; done) | (go_simp; rfl)); intro gb1034 hg w6 hbox hb; have n0_ := Aside0.mk (below_step (by repeat (first | (with_reducible first | exact HB.out | apply below_alloc | apply pw_below_drewN | apply below_drew1) | exact HB.out)) hb); have n1_ := Aside0.mk (hbox); have n2_ := Aside0.mk ((by rw [hg]; exact (below_size (by repeat (first | (with_reducible first | exact HB.out | apply below_alloc | apply pw_below_drewN | apply below_drew1) | exact HB.out))) : w.heap.size ≤ gb1034)); have n3_ := Aside0.mk ((by rw [hg]; exact (below_size (by repeat (first | (with_reducible first | exact HB.out | apply below_alloc | apply pw_below_drewN | apply below_drew1) | exact HB.out))) : w.heap.size ≤ gb1034)); clear HB; have HB := n0_; have BK1034 := n1_; have GW1034 := n2_; have GE1034 := n3_; clear n0_ n1_ n2_ n3_; clear hb hbox hg; have hcz7_0 : w6.cell? ⟨gb1034, 0, none⟩ = some (.slice A0_0 l0_0.length c0_0) := (blk_cell BK1034.out 0).trans rfl; have hcz7_1 : w6.cell? ⟨gb1034, 1, none⟩ = some (.int .i64 a0_1) := (blk_cell BK1034.out 1).trans rfl; have hcz7_2 : w6.cell? ⟨gb1034, 2, none⟩ = some (.bool a0_2) := (blk_cell BK1034.out 2).trans rfl; have hcz7_3 : w6.cell? ⟨gb1034, 3, none⟩ = some (.int .i64 a0_3) := (blk_cell BK1034.out 3).trans rfl; have hcz7_4 : w6.cell? ⟨gb1034, 4, none⟩ = some (.int .i64 a0_4) := (blk_cell BK1034.out 4).trans rfl; have hfz7_0 := blk_frozen BK1034.out 0; have hfz7_1 := blk_frozen BK1034.out 1; have hfz7_2 := blk_frozen BK1034.out 2; have hfz7_3 := blk_frozen BK1034.out 3; have hfz7_4 := blk_frozen BK1034.out 4))
     go_ret
     exact ⟨by first | rfl | (simp [errW_none, errW_some] <;> rfl) | (simp [*, errW_none, errW_some] <;> rfl), by repeat (first | (with_reducible first | exact HB.out | apply below_alloc | apply pw_below_drewN | apply below_drew1 | refine below_set ?_ GE1034.out) | exact HB.out)⟩
    ·rw [if_neg c5] at H
     have c5b0 : (a0_1 == 0) = false := beq_eq_false_iff_ne.mpr c5
     have c5b1 : (a0_1 != 0) = true := bne_iff_ne.mpr c5
     obtain rfl := Option.some.inj H
     go_enter Try.func65, Try.ntmps65
     go_wp2_with (first | ((with_reducible refine gate_dst (N := 1) rfl ?_); (try (refine gate_guard (by rfl) ?_; dsimp only)); refine box_event ?hg (N := 1) ?hd (cs := #[.slice A0_0 l0_0.length c0_0, .int .i64 a0_1, .bool a0_2, .int .i64 a0_3, .int .i64 a0_4]) (t := 77) ?hr ?_; (case hd => rfl); (case hg => rfl); (case hr => first | (go_simp; done) | (go_simp; rfl)); intro gb1034 hg w8 hbox hb; have n0_ := Aside0.mk (below_step (by repeat (first | (with_reducible first | exact HB.out | apply below_alloc | apply pw_below_drewN | apply below_drew1) | exact HB.out)) hb); have n1_ := Aside0.mk (hbox); have n2_ := Aside0.mk ((by rw [hg]; exact (below_size (by repeat (first | (with_reducible first | exact HB.out | apply below_alloc | apply pw_below_drewN | apply below_drew1) | exact HB.out))) : w.heap.size ≤ gb1034)); have n3_ := Aside0.mk ((by rw [hg]; exact (below_size (by repeat (first | (with_reducible first | exact HB.out | apply below_alloc | apply pw_below_drewN | apply below_drew1) | exact HB.out))) : w.heap.size ≤ gb1034)); clear HB; have HB := n0_; have BK1034 := n1_; have GW1034 := n2_; have GE1034 := n3_; clear n0_ n1_ n2_ n3_; clear hb hbox hg; have hcz9_0 : w8.cell? ⟨gb1034, 0, none⟩ = some (.slice A0_0 l0_0.length c0_0) := (blk_cell BK1034.out 0).trans rfl; have hcz9_1 : w8.cell? ⟨gb1034, 1, none⟩ = some (.int .i64 a0_1) := (blk_cell BK1034.out 1).trans rfl; have hcz9_2 : w8.cell? ⟨gb1034, 2, none⟩ = some (.bool a0_2) := (blk_cell BK1034.out 2).trans rfl; have hcz9_3 : w8.cell? ⟨gb1034, 3, none⟩ = some (.int .i64 a0_3) := (blk_cell BK1034.out 3).trans rfl; have hcz9_4 : w8.cell? ⟨gb1034, 4, none⟩ = some (.int .i64 a0_4) := (blk_cell BK1034.out 4).trans rfl; have hfz9_0 := blk_frozen BK1034.out 0; have hfz9_1 := blk_frozen BK1034.out 1; have hfz9_2 := blk_frozen BK1034.out 2; have hfz9_3 := blk_frozen BK1034.out 3; have hfz9_4 := blk_frozen BK1034.out 4))
     go_ret
     exact ⟨by first | rfl | (simp [errW_none, errW_some] <;> rfl) | (simp [*, errW_none, errW_some] <;> rfl), by repeat (first | (with_reducible first | exact HB.out | apply below_alloc | apply pw_below_drewN | apply below_drew1 | refine below_set ?_ GE1034.out) | exact HB.out)⟩
   ·rw [if_neg c4] at H
    have c4b0 : ((l0_0.length : Int) == 0) = false := beq_eq_false_iff_ne.mpr c4
    have c4b1 : ((l0_0.length : Int) != 0) = true := bne_iff_ne.mpr c4
    have c4b2 : ¬ (l0_0 = []) := fun h_ => c4 (by rw [h_]; rfl)
    obtain rfl := Option.some.inj H
    go_enter Try.func65, Try.ntmps65
    go_wp2_with (first | ((with_reducible refine gate_dst (N := 1) rfl ?_); (try (refine gate_guard (by rfl) ?_; dsimp only)); refine box_event ?hg (N := 1) ?hd (cs := #[.slice A0_0 l0_0.length c0_0, .int .i64 a0_1, .bool a0_2, .int .i64 a0_3, .int .i64 a0_4]) (t := 77) ?hr ?_; (case hd => rfl); (case hg => rfl); (case hr => first | (go_simp; done) | (go_simp; rfl)); intro gb1034 hg w10 hbox hb; have n0_ := Aside0.mk (below_step (by repeat (first | (with_reducible first | exact HB.out | apply below_alloc | apply pw_below_drewN | apply below_drew1) | exact HB.out)) hb); have n1_ := Aside0.mk (hbox); have n2_ := Aside0.mk ((by rw [hg]; exact (below_size (by repeat (first | (with_reducible first | exact HB.out | apply below_alloc | apply pw_below_drewN | apply below_drew1) | exact HB.out))) : w.heap.size ≤ gb1034)); have n3_ := Aside0.mk ((by rw [hg]; exact (below_size (by repeat (first | (with_reducible first | exact HB.out | apply below_alloc | apply pw_below_drewN | apply below_drew1) | exact HB.out))) : w.heap.size ≤ gb1034)); clear HB; have HB := n0_; have BK1034 := n1_; have GW1034 := n2_; have GE1034 := n3_; clear n0_ n1_ n2_ n3_; clear hb hbox hg; have hcz11_0 : w10.cell? ⟨gb1034, 0, none⟩ = some (.slice A0_0 l0_0.length c0_0) := (blk_cell BK1034.out 0).trans rfl; have hcz11_1 : w10.cell? ⟨gb1034, 1, none⟩ = some (.int .i64 a0_1) := (blk_cell BK1034.out 1).trans rfl; have hcz11_2 : w10.cell? ⟨gb1034, 2, none⟩ = some (.bool a0_2) := (blk_cell BK1034.out 2).trans rfl; have hcz11_3 : w10.cell? ⟨gb1034, 3, none⟩ = some (.int .i64 a0_3) := (blk_cell BK1034.out 3).trans rfl; have hcz11_4 : w10.cell? ⟨gb1034, 4, none⟩ = some (.int .i64 a0_4) := (blk_cell BK1034.out 4).trans rfl; have hfz11_0 := blk_frozen BK1034.out 0; have hfz11_1 := blk_frozen BK1034.out 1; have hfz11_2 := blk_frozen BK1034.out 2; have hfz11_3 := blk_frozen BK1034.out 3; have hfz11_4 := blk_frozen BK1034.out 4))
    go_ret
    exact ⟨by first | rfl | (simp [errW_none, errW_some] <;> rfl) | (simp [*, errW_none, errW_some] <;> rfl), by repeat (first | (with_reducible first | exact HB.out | apply below_alloc | apply pw_below_drewN | apply below_drew1 | refine below_set ?_ GE1034.out) | exact HB.out)⟩
  ·rw [if_neg c3] at H
   have c3b0 : (a0_4 == 0) = false := beq_eq_false_iff_ne.mpr c3
   have c3b1 : (a0_4 != 0) = true := bne_iff_ne.mpr c3
   obtain rfl := Option.some.inj H
   go_enter Try.func65, Try.ntmps65
   go_wp2_with (first | ((with_reducible refine gate_dst (N := 1) rfl ?_); (try (refine gate_guard (by rfl) ?_; dsimp only)); refine box_event ?hg (N := 1) ?hd (cs := #[.slice A0_0 l0_0.length c0_0, .int .i64 a0_1, .bool a0_2, .int .i64 a0_3, .int .i64 a0_4]) (t := 77) ?hr ?_; (case hd => rfl); (case hg => rfl); (case hr => first | (go_simp; done) | (go_simp; rfl)); intro gb1034 hg w12 hbox hb; have n0_ := Aside0.mk (below_step (by repeat (first | (with_reducible first | exact HB.out | apply below_alloc | apply pw_below_drewN | apply below_drew1) | exact HB.out)) hb); have n1_ := Aside0.mk (hbox); have n2_ := Aside0.mk ((by rw [hg]; exact (below_size (by repeat (first | (with_reducible first | exact HB.out | apply below_alloc | apply pw_below_drewN | apply below_drew1) | exact HB.out))) : w.heap.size ≤ gb1034)); have n3_ := Aside0.mk ((by rw [hg]; exact (below_size (by repeat (first | (with_reducible first | exact HB.out | apply below_alloc | apply pw_below_drewN | apply below_drew1) | exact HB.out))) : w.heap.size ≤ gb1034)); clear HB; have HB := n0_; have BK1034 := n1_; have GW1034 := n2_; have GE1034 := n3_; clear n0_ n1_ n2_ n3_; clear hb hbox hg; have hcz13_0 : w12.cell? ⟨gb1034, 0, none⟩ = some (.slice A0_0 l0_0.length c0_0) := (blk_cell BK1034.out 0).trans rfl; have hcz13_1 : w12.cell? ⟨gb1034, 1, none⟩ = some (.int .i64 a0_1) := (blk_cell BK1034.out 1).trans rfl; have hcz13_2 : w12.cell? ⟨gb1034, 2, none⟩ = some (.bool a0_2) := (blk_cell BK1034.out 2).trans rfl; have hcz13_3 : w12.cell? ⟨gb1034, 3, none⟩ = some (.int .i64 a0_3) := (blk_cell BK1034.out 3).trans rfl; have hcz13_4 : w12.cell? ⟨gb1034, 4, none⟩ = some (.int .i64 a0_4) := (blk_cell BK1034.out 4).trans rfl; have hfz13_0 := blk_frozen BK1034.out 0; have hfz13_1 := blk_frozen BK1034.out 1; have hfz13_2 := blk_frozen BK1034.out 2; have hfz13_3 := blk_frozen BK1034.out 3; have hfz13_4 := blk_frozen BK1034.out 4))
   go_ret
   exact ⟨by first | rfl | (simp [errW_none, errW_some] <;> rfl) | (simp [*, errW_none, errW_some] <;> rfl), by repeat (first | (with_reducible first | exact HB.out | apply below_alloc | apply pw_below_drewN | apply below_drew1 | refine below_set ?_ GE1034.out) | exact HB.out)⟩
 ·rw [if_neg c2] at H
  have c2b0 : (a0_3 == 1) = false := beq_eq_false_iff_ne.mpr c2
  have c2b1 : (a0_3 != 1) = true := bne_iff_ne.mpr c2
  by_cases c14 : (l0_0.length : Int) > 60000
  ·rw [if_pos c14] at H
   have c14b0 : decide (60000 < (l0_0.length : Int)) = true := decide_eq_true c14
   have c14b1 : decide (60000 < l0_0.length) = true := decide_eq_true (by omega)
   clear c14
   obtain rfl := Option.some.inj H
   go_enter Try.func65, Try.ntmps65
   go_wp2_with (first | ((with_reducible refine gate_dst (N := 1) rfl ?_); (try (refine gate_guard (by rfl) ?_; dsimp only)); refine box_event ?hg (N := 1) ?hd (cs := #[.slice A0_0 l0_0.length c0_0, .int .i64 a0_1, .bool a0_2, .int .i64 a0_3, .int .i64 a0_4]) (t := 77) ?hr ?_; (case hd => rfl); (case hg => rfl); (case hr => first | (go_simp; done) | (go_simp; rfl)); intro gb1034 hg w15 hbox hb; have n0_ := Aside0.mk (below_step (by repeat (first | (with_reducible first | exact HB.out | apply below_alloc | apply pw_below_drewN | apply below_drew1) | exact HB.out)) hb); have n1_ := Aside0.mk (hbox); have n2_ := Aside0.mk ((by rw [hg]; exact (below_size (by repeat (first | (with_reducible first | exact HB.out | apply below_alloc | apply pw_below_drewN | apply below_drew1) | exact HB.out))) : w.heap.size ≤ gb1034)); have n3_ := Aside0.mk ((by rw [hg]; exact (below_size (by repeat (first | (with_reducible first | exact HB.out | apply below_alloc | apply pw_below_drewN | apply below_drew1) | exact HB.out))) : w.heap.size ≤ gb1034)); clear HB; have HB := n0_; have BK1034 := n1_; have GW1034 := n2_; have GE1034 := n3_; clear n0_ n1_ n2_ n3_; clear hb hbox hg; have hcz16_0 : w15.cell? ⟨gb1034, 0, none⟩ = some (.slice A0_0 l0_0.length c0_0) := (blk_cell BK1034.out 0).trans rfl; have hcz16_1 : w15.cell? ⟨gb1034, 1, none⟩ = some (.int .i64 a0_1) := (blk_cell BK1034.out 1).trans rfl; have hcz16_2 : w15.cell? ⟨gb1034, 2, none⟩ = some (.bool a0_2) := (blk_cell BK1034.out 2).trans rfl; have hcz16_3 : w15.cell? ⟨gb1034, 3, none⟩ = some (.int .i64 a0_3) := (blk_cell BK1034.out 3).trans rfl; have hcz16_4 : w15.cell? ⟨gb1034, 4, none⟩ = some (.int .i64 a0_4) := (blk_cell BK1034.out 4).trans rfl; have hfz16_0 := blk_frozen BK1034.out 0; have hfz16_1 := blk_frozen BK1034.out 1; have hfz16_2 := blk_frozen BK1034.out 2; have hfz16_3 := blk_frozen BK1034.out 3; have hfz16_4 := blk_frozen BK1034.out 4))
   go_ret
   exact ⟨by first | rfl | (simp [errW_none, errW_some] <;> rfl) | (simp [*, errW_none, errW_some] <;> rfl), by repeat (first | (with_reducible first | exact HB.out | apply below_alloc | apply pw_below_drewN | apply below_drew1 | refine below_set ?_ GE1034.out) | exact HB.out)⟩
  ·rw [if_neg c14] at H
   have c14b0 : decide (60000 < (l0_0.length : Int)) = false := decide_eq_false c14
   have c14b1 : decide (60000 < l0_0.length) = false := decide_eq_false (by omega)
   clear c14
   replace H := Option.bind_eq_some_iff.mp H
   obtain ⟨⟨t1035, t1038, t1039, t1040, t1041⟩, A170, H⟩ := H
   replace H : (if t1038 = a0_1 then (if (t1039 == a0_2) = true then (some (t1040 == a0_3 && (t1041 == a0_4))) else (some false)) else (some false)) = some r := H
   have A17 := Aside0.mk A170
   clear A170
   by_cases c18 : t1038 = a0_1
   ·rw [if_pos c18] at H
    have c18b0 : (t1038 == a0_1) = true := beq_iff_eq.mpr c18
    have c18b1 : (t1038 != a0_1) = false := bne_eq_false_iff_eq.mpr c18
    clear c18
    by_cases c19 : (t1039 == a0_2) = true
    ·rw [if_pos c19] at H
     have c19b0 : (t1039 == a0_2) = true := c19
     (try (have c19b1 : decide (t1039 = a0_2) = true := by simpa using c19))
     (try (have c19b2 : (t1039 == a0_2) = true := by simpa using c19))
     clear c19
     obtain rfl := Option.some.inj H
     go_enter Try.func65, Try.ntmps65
     go_wp2_with (first | ((with_reducible refine gate_dst (N := 1) rfl ?_); (try (refine gate_guard (by rfl) ?_; dsimp only)); refine box_event ?hg (N := 1) ?hd (cs := #[.slice A0_0 l0_0.length c0_0, .int .i64 a0_1, .bool a0_2, .int .i64 a0_3, .int .i64 a0_4]) (t := 77) ?hr ?_; (case hd => rfl); (case hg => rfl); (case hr => first | (go_simp; done) | (go_simp; rfl)); intro gb1034 hg w20 hbox hb; have n0_ := Aside0.mk (below_step (by repeat (first | (with_reducible first | exact HB.out | apply below_alloc | apply pw_below_drewN | apply below_drew1) | exact HB.out)) hb); have n1_ := Aside0.mk (hbox); have n2_ := Aside0.mk ((by rw [hg]; exact (below_size (by repeat (first | (with_reducible first | exact HB.out | apply below_alloc | apply pw_below_drewN | apply below_drew1) | exact HB.out))) : w.heap.size ≤ gb1034)); have n3_ := Aside0.mk ((by rw [hg]; exact (below_size (by repeat (first | (with_reducible first | exact HB.out | apply below_alloc | apply pw_below_drewN | apply below_drew1) | exact HB.out))) : w.heap.size ≤ gb1034)); clear HB; have HB := n0_; have BK1034 := n1_; have GW1034 := n2_; have GE1034 := n3_; clear n0_ n1_ n2_ n3_; clear hb hbox hg; have hcz21_0 : w20.cell? ⟨gb1034, 0, none⟩ = some (.slice A0_0 l0_0.length c0_0) := (blk_cell BK1034.out 0).trans rfl; have hcz21_1 : w20.cell? ⟨gb1034, 1, none⟩ = some (.int .i64 a0_1) := (blk_cell BK1034.out 1).trans rfl; have hcz21_2 : w20.cell? ⟨gb1034, 2, none⟩ = some (.bool a0_2) := (blk_cell BK1034.out 2).trans rfl; have hcz21_3 : w20.cell? ⟨gb1034, 3, none⟩ = some (.int .i64 a0_3) := (blk_cell BK1034.out 3).trans rfl; have hcz21_4 : w20.cell? ⟨gb1034, 4, none⟩ = some (.int .i64 a0_4) := (blk_cell BK1034.out 4).trans rfl; have hfz21_0 := blk_frozen BK1034.out 0; have hfz21_1 := blk_frozen BK1034.out 1; have hfz21_2 := blk_frozen BK1034.out 2; have hfz21_3 := blk_frozen BK1034.out 3; have hfz21_4 := blk_frozen BK1034.out 4) | ((with_reducible refine gate_callee (f := 138) rfl ?_); refine goesL_ (some 34) rfl rfl Try.func138 (by kernel_rfl) rfl #[.slice A0_0 l0_0.length c0_0] rfl (by (try simp only [List.map_toArray, List.map_cons, List.map_nil]); first | done | rfl | (simp only [List.length_drop, List.length_take]; rfl)) ?_; (with_reducible refine (spec_l20Tell.calls k _ _ l0_0 t1035 t1038 t1039 t1040 t1041 _ ?side1 ?side2 A17.out).mono ?_); (case side1 => repeat (first | exact (Kd.C_below HR0_0.out HB.out) | (with_reducible refine Kd.C_alloc ?_ _) | (with_reducible refine Kd.C_drewN ?_ _) | (with_reducible refine Kd.C_drew ?_))); (case side2 => exact HC0_0.out); rintro e w22 ⟨v1036, rfl, ho0, hb⟩; refine ⟨_, rfl, ?_⟩; have n0_ := Aside0.mk (Kd.R_lower ho0 (below_size (by repeat (first | (with_reducible first | exact HB.out | apply below_alloc | apply pw_below_drewN | apply below_drew1 | refine below_set ?_ GE1034.out) | exact HB.out)))); have n1_ := Aside0.mk (blk_below (g := gb1034) (o := .cells #[.slice A0_0 l0_0.length c0_0, .int .i64 a0_1, .bool a0_2, .int .i64 a0_3, .int .i64 a0_4] 77 (0, 0)) (by (with_reducible repeat (first | refine blk_drewN ?_ _ | refine blk_drew ?_ | refine blk_alloc ?_ _)); exact BK1034.out) hb); have n2_ := Aside0.mk (below_step (by repeat (first | (with_reducible first | exact HB.out | apply below_alloc | apply pw_below_drewN | apply below_drew1 | refine below_set ?_ GE1034.out) | exact HB.out)) hb); clear BK1034; clear HB; have HO1037 := n0_; have BK1034 := n1_; have HB := n2_; clear n0_ n1_ n2_; (try clear hb); (try clear hb2); (try clear hk); (try clear hi); (try clear ho0)) | ((with_reducible refine gate_dst (N := 3) rfl ?_); (try (refine gate_guard (by rfl) ?_; dsimp only)); refine box_event ?hg (N := 3) ?hd (cs := #[.slice none 0 0, .int .i64 0, .bool false, .int .i64 0, .int .i64 0]) (t := 77) ?hr ?_; (case hd => rfl); (case hg => rfl); (case hr => first | (go_simp; done) | (go_simp; rfl)); intro gb1042 hg w23 hbox hb; have n0_ := Aside0.mk (Kd.R_below (by (with_reducible repeat (first | apply Kd.R_alloc | apply Kd.R_drewN | apply Kd.R_drew)); exact HO1037.out) hb); have n1_ := Aside0.mk (blk_below (g := gb1034) (o := .cells #[.slice A0_0 l0_0.length c0_0, .int .i64 a0_1, .bool a0_2, .int .i64 a0_3, .int .i64 a0_4] 77 (0, 0)) (by (with_reducible repeat (first | refine blk_drewN ?_ _ | refine blk_drew ?_ | refine blk_alloc ?_ _)); exact BK1034.out) hb); have n2_ := Aside0.mk (below_step (by repeat (first | (with_reducible first | exact HB.out | apply below_alloc | apply pw_below_drewN | apply below_drew1 | refine below_set ?_ GE1034.out) | exact HB.out)) hb); have n3_ := Aside0.mk (hbox); have n4_ := Aside0.mk ((by rw [hg]; exact (below_size (by repeat (first | (with_reducible first | exact HB.out | apply below_alloc | apply pw_below_drewN | apply below_drew1 | refine below_set ?_ GE1034.out) | exact HB.out))) : w.heap.size ≤ gb1042)); have n5_ := Aside0.mk ((by rw [hg]; exact (below_size (by repeat (first | (with_reducible first | exact HB.out | apply below_alloc | apply pw_below_drewN | apply below_drew1 | refine below_set ?_ GE1034.out) | exact HB.out))) : w.heap.size ≤ gb1042)); have n6_ := Aside0.mk ((by rw [hg]; exact Nat.ne_of_lt (blk_lt (g := gb1034) (o := .cells #[.slice A0_0 l0_0.length c0_0, .int .i64 a0_1, .bool a0_2, .int .i64 a0_3, .int .i64 a0_4] 77 (0, 0)) (by (with_reducible repeat (first | refine blk_drewN ?_ _ | refine blk_drew ?_ | refine blk_alloc ?_ _)); exact BK1034.out)) : gb1034 ≠ gb1042)); have n7_ := Aside0.mk ((by rw [hg]; exact Nat.ne_of_gt (blk_lt (g := gb1034) (o := .cells #[.slice A0_0 l0_0.length c0_0, .int .i64 a0_1, .bool a0_2, .int .i64 a0_3, .int .i64 a0_4] 77 (0, 0)) (by (with_reducible repeat (first | refine blk_drewN ?_ _ | refine blk_drew ?_ | refine blk_alloc ?_ _)); exact BK1034.out)) : gb1042 ≠ gb1034)); clear HO1037; clear BK1034; clear HB; have HO1037 := n0_; have BK1034 := n1_; have HB := n2_; have BK1042 := n3_; have GW1042 := n4_; have GE1042 := n5_; have NB1034_1042 := n6_; have NB1042_1034 := n7_; clear n0_ n1_ n2_ n3_ n4_ n5_ n6_ n7_; clear hb hbox hg; obtain ⟨Ao24, co24, eo24⟩ := Kd.R_slice HO1037.out; subst eo24; have hnb25 := NB1042_1034.out; have hnc25 := NB1034_1042.out; have hcz26_0 : w23.cell? ⟨gb1042, 0, none⟩ = some (.slice none 0 0) := (blk_cell BK1042.out 0).trans rfl; have hcz26_1 : w23.cell? ⟨gb1042, 1, none⟩ = some (.int .i64 0) := (blk_cell BK1042.out 1).trans rfl; have hcz26_2 : w23.cell? ⟨gb1042, 2, none⟩ = some (.bool false) := (blk_cell BK1042.out 2).trans rfl; have hcz26_3 : w23.cell? ⟨gb1042, 3, none⟩ = some (.int .i64 0) := (blk_cell BK1042.out 3).trans rfl; have hcz26_4 : w23.cell? ⟨gb1042, 4, none⟩ = some (.int .i64 0) := (blk_cell BK1042.out 4).trans rfl; have hfz26_0 := blk_frozen BK1042.out 0; have hfz26_1 := blk_frozen BK1042.out 1; have hfz26_2 := blk_frozen BK1042.out 2; have hfz26_3 := blk_frozen BK1042.out 3; have hfz26_4 := blk_frozen BK1042.out 4; have hcz27_0 : w23.cell? ⟨gb1034, 0, none⟩ = some (.slice A0_0 l0_0.length c0_0) := (blk_cell BK1034.out 0).trans rfl; have hcz27_1 : w23.cell? ⟨gb1034, 1, none⟩ = some (.int .i64 a0_1) := (blk_cell BK1034.out 1).trans rfl; have hcz27_2 : w23.cell? ⟨gb1034, 2, none⟩ = some (.bool a0_2) := (blk_cell BK1034.out 2).trans rfl; have hcz27_3 : w23.cell? ⟨gb1034, 3, none⟩ = some (.int .i64 a0_3) := (blk_cell BK1034.out 3).trans rfl; have hcz27_4 : w23.cell? ⟨gb1034, 4, none⟩ = some (.int .i64 a0_4) := (blk_cell BK1034.out 4).trans rfl; have hfz27_0 := blk_frozen BK1034.out 0; have hfz27_1 := blk_frozen BK1034.out 1; have hfz27_2 := blk_frozen BK1034.out 2; have hfz27_3 := blk_frozen BK1034.out 3; have hfz27_4 := blk_frozen BK1034.out 4))
     go_ret
     exact ⟨by first | rfl | (simp [errW_none, errW_some] <;> rfl) | (simp [*, errW_none, errW_some] <;> rfl), by repeat (first | (with_reducible first | exact HB.out | apply below_alloc | apply pw_below_drewN | apply below_drew1 | refine below_set ?_ GE1034.out | refine below_set ?_ GE1042.out) | exact HB.out)⟩
    ·rw [if_neg c19] at H
     have c19b0 : (t1039 == a0_2) = false := by simpa using c19
     (try (have c19b1 : decide (t1039 = a0_2) = false := by simpa using c19))
     (try (have c19b2 : (t1039 == a0_2) = false := by simpa using c19))
     (try (have c19b3 : ¬ (t1039 = a0_2) := by simpa using c19))
     clear c19
     obtain rfl := Option.some.inj H
     go_enter Try.func65, Try.ntmps65
     go_wp2_with (first | ((with_reducible refine gate_dst (N := 1) rfl ?_); (try (refine gate_guard (by rfl) ?_; dsimp only)); refine box_event ?hg (N := 1) ?hd (cs := #[.slice A0_0 l0_0.length c0_0, .int .i64 a0_1, .bool a0_2, .int .i64 a0_3, .int .i64 a0_4]) (t := 77) ?hr ?_; (case hd => rfl); (case hg => rfl); (case hr => first | (go_simp; done) | (go_simp; rfl)); intro gb1034 hg w28 hbox hb; have n0_ := Aside0.mk (below_step (by repeat (first | (with_reducible first | exact HB.out | apply below_alloc | apply pw_below_drewN | apply below_drew1) | exact HB.out)) hb); have n1_ := Aside0.mk (hbox); have n2_ := Aside0.mk ((by rw [hg]; exact (below_size (by repeat (first | (with_reducible first | exact HB.out | apply below_alloc | apply pw_below_drewN | apply below_drew1) | exact HB.out))) : w.heap.size ≤ gb1034)); have n3_ := Aside0.mk ((by rw [hg]; exact (below_size (by repeat (first | (with_reducible first | exact HB.out | apply below_alloc | apply pw_below_drewN | apply below_drew1) | exact HB.out))) : w.heap.size ≤ gb1034)); clear HB; have HB := n0_; have BK1034 := n1_; have GW1034 := n2_; have GE1034 := n3_; clear n0_ n1_ n2_ n3_; clear hb hbox hg; have hcz29_0 : w28.cell? ⟨gb1034, 0, none⟩ = some (.slice A0_0 l0_0.length c0_0) := (blk_cell BK1034.out 0).trans rfl; have hcz29_1 : w28.cell? ⟨gb1034, 1, none⟩ = some (.int .i64 a0_1) := (blk_cell BK1034.out 1).trans rfl; have hcz29_2 : w28.cell? ⟨gb1034, 2, none⟩ = some (.bool a0_2) := (blk_cell BK1034.out 2).trans rfl; have hcz29_3 : w28.cell? ⟨gb1034, 3, none⟩ = some (.int .i64 a0_3) := (blk_cell BK1034.out 3).trans rfl; have hcz29_4 : w28.cell? ⟨gb1034, 4, none⟩ = some (.int .i64 a0_4) := (blk_cell BK1034.out 4).trans rfl; have hfz29_0 := blk_frozen BK1034.out 0; have hfz29_1 := blk_frozen BK1034.out 1; have hfz29_2 := blk_frozen BK1034.out 2; have hfz29_3 := blk_frozen BK1034.out 3; have hfz29_4 := blk_frozen BK1034.out 4) | ((with_reducible refine gate_callee (f := 138) rfl ?_); refine goesL_ (some 34) rfl rfl Try.func138 (by kernel_rfl) rfl #[.slice A0_0 l0_0.length c0_0] rfl (by (try simp only [List.map_toArray, List.map_cons, List.map_nil]); first | done | rfl | (simp only [List.length_drop, List.length_take]; rfl)) ?_; (with_reducible refine (spec_l20Tell.calls k _ _ l0_0 t1035 t1038 t1039 t1040 t1041 _ ?side1 ?side2 A17.out).mono ?_); (case side1 => repeat (first | exact (Kd.C_below HR0_0.out HB.out) | (with_reducible refine Kd.C_alloc ?_ _) | (with_reducible refine Kd.C_drewN ?_ _) | (with_reducible refine Kd.C_drew ?_))); (case side2 => exact HC0_0.out); rintro e w30 ⟨v1036, rfl, ho0, hb⟩; refine ⟨_, rfl, ?_⟩; have n0_ := Aside0.mk (Kd.R_lower ho0 (below_size (by repeat (first | (with_reducible first | exact HB.out | apply below_alloc | apply pw_below_drewN | apply below_drew1 | refine below_set ?_ GE1034.out) | exact HB.out)))); have n1_ := Aside0.mk (blk_below (g := gb1034) (o := .cells #[.slice A0_0 l0_0.length c0_0, .int .i64 a0_1, .bool a0_2, .int .i64 a0_3, .int .i64 a0_4] 77 (0, 0)) (by (with_reducible repeat (first | refine blk_drewN ?_ _ | refine blk_drew ?_ | refine blk_alloc ?_ _)); exact BK1034.out) hb); have n2_ := Aside0.mk (below_step (by repeat (first | (with_reducible first | exact HB.out | apply below_alloc | apply pw_below_drewN | apply below_drew1 | refine below_set ?_ GE1034.out) | exact HB.out)) hb); clear BK1034; clear HB; have HO1037 := n0_; have BK1034 := n1_; have HB := n2_; clear n0_ n1_ n2_; (try clear hb); (try clear hb2); (try clear hk); (try clear hi); (try clear ho0)) | ((with_reducible refine gate_dst (N := 3) rfl ?_); (try (refine gate_guard (by rfl) ?_; dsimp only)); refine box_event ?hg (N := 3) ?hd (cs := #[.slice none 0 0, .int .i64 0, .bool false, .int .i64 0, .int .i64 0]) (t := 77) ?hr ?_; (case hd => rfl); (case hg => rfl); (case hr => first | (go_simp; done) | (go_simp; rfl)); intro gb1042 hg w31 hbox hb; have n0_ := Aside0.mk (Kd.R_below (by (with_reducible repeat (first | apply Kd.R_alloc | apply Kd.R_drewN | apply Kd.R_drew)); exact HO1037.out) hb); have n1_ := Aside0.mk (blk_below (g := gb1034) (o := .cells #[.slice A0_0 l0_0.length c0_0, .int .i64 a0_1, .bool a0_2, .int .i64 a0_3, .int .i64 a0_4] 77 (0, 0)) (by (with_reducible repeat (first | refine blk_drewN ?_ _ | refine blk_drew ?_ | refine blk_alloc ?_ _)); exact BK1034.out) hb); have n2_ := Aside0.mk (below_step (by repeat (first | (with_reducible first | exact HB.out | apply below_alloc | apply pw_below_drewN | apply below_drew1 | refine below_set ?_ GE1034.out) | exact HB.out)) hb); have n3_ := Aside0.mk (hbox); have n4_ := Aside0.mk ((by rw [hg]; exact (below_size (by repeat (first | (with_reducible first | exact HB.out | apply below_alloc | apply pw_below_drewN | apply below_drew1 | refine below_set ?_ GE1034.out) | exact HB.out))) : w.heap.size ≤ gb1042)); have n5_ := Aside0.mk ((by rw [hg]; exact (below_size (by repeat (first | (with_reducible first | exact HB.out | apply below_alloc | apply pw_below_drewN | apply below_drew1 | refine below_set ?_ GE1034.out) | exact HB.out))) : w.heap.size ≤ gb1042)); have n6_ := Aside0.mk ((by rw [hg]; exact Nat.ne_of_lt (blk_lt (g := gb1034) (o := .cells #[.slice A0_0 l0_0.length c0_0, .int .i64 a0_1, .bool a0_2, .int .i64 a0_3, .int .i64 a0_4] 77 (0, 0)) (by (with_reducible repeat (first | refine blk_drewN ?_ _ | refine blk_drew ?_ | refine blk_alloc ?_ _)); exact BK1034.out)) : gb1034 ≠ gb1042)); have n7_ := Aside0.mk ((by rw [hg]; exact Nat.ne_of_gt (blk_lt (g := gb1034) (o := .cells #[.slice A0_0 l0_0.length c0_0, .int .i64 a0_1, .bool a0_2, .int .i64 a0_3, .int .i64 a0_4] 77 (0, 0)) (by (with_reducible repeat (first | refine blk_drewN ?_ _ | refine blk_drew ?_ | refine blk_alloc ?_ _)); exact BK1034.out)) : gb1042 ≠ gb1034)); clear HO1037; clear BK1034; clear HB; have HO1037 := n0_; have BK1034 := n1_; have HB := n2_; have BK1042 := n3_; have GW1042 := n4_; have GE1042 := n5_; have NB1034_1042 := n6_; have NB1042_1034 := n7_; clear n0_ n1_ n2_ n3_ n4_ n5_ n6_ n7_; clear hb hbox hg; obtain ⟨Ao32, co32, eo32⟩ := Kd.R_slice HO1037.out; subst eo32; have hnb33 := NB1042_1034.out; have hnc33 := NB1034_1042.out; have hcz34_0 : w31.cell? ⟨gb1042, 0, none⟩ = some (.slice none 0 0) := (blk_cell BK1042.out 0).trans rfl; have hcz34_1 : w31.cell? ⟨gb1042, 1, none⟩ = some (.int .i64 0) := (blk_cell BK1042.out 1).trans rfl; have hcz34_2 : w31.cell? ⟨gb1042, 2, none⟩ = some (.bool false) := (blk_cell BK1042.out 2).trans rfl; have hcz34_3 : w31.cell? ⟨gb1042, 3, none⟩ = some (.int .i64 0) := (blk_cell BK1042.out 3).trans rfl; have hcz34_4 : w31.cell? ⟨gb1042, 4, none⟩ = some (.int .i64 0) := (blk_cell BK1042.out 4).trans rfl; have hfz34_0 := blk_frozen BK1042.out 0; have hfz34_1 := blk_frozen BK1042.out 1; have hfz34_2 := blk_frozen BK1042.out 2; have hfz34_3 := blk_frozen BK1042.out 3; have hfz34_4 := blk_frozen BK1042.out 4; have hcz35_0 : w31.cell? ⟨gb1034, 0, none⟩ = some (.slice A0_0 l0_0.length c0_0) := (blk_cell BK1034.out 0).trans rfl; have hcz35_1 : w31.cell? ⟨gb1034, 1, none⟩ = some (.int .i64 a0_1) := (blk_cell BK1034.out 1).trans rfl; have hcz35_2 : w31.cell? ⟨gb1034, 2, none⟩ = some (.bool a0_2) := (blk_cell BK1034.out 2).trans rfl; have hcz35_3 : w31.cell? ⟨gb1034, 3, none⟩ = some (.int .i64 a0_3) := (blk_cell BK1034.out 3).trans rfl; have hcz35_4 : w31.cell? ⟨gb1034, 4, none⟩ = some (.int .i64 a0_4) := (blk_cell BK1034.out 4).trans rfl; have hfz35_0 := blk_frozen BK1034.out 0; have hfz35_1 := blk_frozen BK1034.out 1; have hfz35_2 := blk_frozen BK1034.out 2; have hfz35_3 := blk_frozen BK1034.out 3; have hfz35_4 := blk_frozen BK1034.out 4))
     go_ret
     exact ⟨by first | rfl | (simp [errW_none, errW_some] <;> rfl) | (simp [*, errW_none, errW_some] <;> rfl), by repeat (first | (with_reducible first | exact HB.out | apply below_alloc | apply pw_below_drewN | apply below_drew1 | refine below_set ?_ GE1034.out | refine below_set ?_ GE1042.out) | exact HB.out)⟩
   ·rw [if_neg c18] at H
    have c18b0 : (t1038 == a0_1) = false := beq_eq_false_iff_ne.mpr c18
    have c18b1 : (t1038 != a0_1) = true := bne_iff_ne.mpr c18
    obtain rfl := Option.some.inj H
    go_enter Try.func65, Try.ntmps65
    go_wp2_with (first | ((with_reducible refine gate_dst (N := 1) rfl ?_); (try (refine gate_guard (by rfl) ?_; dsimp only)); refine box_event ?hg (N := 1) ?hd (cs := #[.slice A0_0 l0_0.length c0_0, .int .i64 a0_1, .bool a0_2, .int .i64 a0_3, .int .i64 a0_4]) (t := 77) ?hr ?_; (case hd => rfl); (case hg => rfl); (case hr => first | (go_simp; done) | (go_simp; rfl)); intro gb1034 hg w36 hbox hb; have n0_ := Aside0.mk (below_step (by repeat (first | (with_reducible first | exact HB.out | apply below_alloc | apply pw_below_drewN | apply below_drew1) | exact HB.out)) hb); have n1_ := Aside0.mk (hbox); have n2_ := Aside0.mk ((by rw [hg]; exact (below_size (by repeat (first | (with_reducible first | exact HB.out | apply below_alloc | apply pw_below_drewN | apply below_drew1) | exact HB.out))) : w.heap.size ≤ gb1034)); have n3_ := Aside0.mk ((by rw [hg]; exact (below_size (by repeat (first | (with_reducible first | exact HB.out | apply below_alloc | apply pw_below_drewN | apply below_drew1) | exact HB.out))) : w.heap.size ≤ gb1034)); clear HB; have HB := n0_; have BK1034 := n1_; have GW1034 := n2_; have GE1034 := n3_; clear n0_ n1_ n2_ n3_; clear hb hbox hg; have hcz37_0 : w36.cell? ⟨gb1034, 0, none⟩ = some (.slice A0_0 l0_0.length c0_0) := (blk_cell BK1034.out 0).trans rfl; have hcz37_1 : w36.cell? ⟨gb1034, 1, none⟩ = some (.int .i64 a0_1) := (blk_cell BK1034.out 1).trans rfl; have hcz37_2 : w36.cell? ⟨gb1034, 2, none⟩ = some (.bool a0_2) := (blk_cell BK1034.out 2).trans rfl; have hcz37_3 : w36.cell? ⟨gb1034, 3, none⟩ = some (.int .i64 a0_3) := (blk_cell BK1034.out 3).trans rfl; have hcz37_4 : w36.cell? ⟨gb1034, 4, none⟩ = some (.int .i64 a0_4) := (blk_cell BK1034.out 4).trans rfl; have hfz37_0 := blk_frozen BK1034.out 0; have hfz37_1 := blk_frozen BK1034.out 1; have hfz37_2 := blk_frozen BK1034.out 2; have hfz37_3 := blk_frozen BK1034.out 3; have hfz37_4 := blk_frozen BK1034.out 4) | ((with_reducible refine gate_callee (f := 138) rfl ?_); refine goesL_ (some 34) rfl rfl Try.func138 (by kernel_rfl) rfl #[.slice A0_0 l0_0.length c0_0] rfl (by (try simp only [List.map_toArray, List.map_cons, List.map_nil]); first | done | rfl | (simp only [List.length_drop, List.length_take]; rfl)) ?_; (with_reducible refine (spec_l20Tell.calls k _ _ l0_0 t1035 t1038 t1039 t1040 t1041 _ ?side1 ?side2 A17.out).mono ?_); (case side1 => repeat (first | exact (Kd.C_below HR0_0.out HB.out) | (with_reducible refine Kd.C_alloc ?_ _) | (with_reducible refine Kd.C_drewN ?_ _) | (with_reducible refine Kd.C_drew ?_))); (case side2 => exact HC0_0.out); rintro e w38 ⟨v1036, rfl, ho0, hb⟩; refine ⟨_, rfl, ?_⟩; have n0_ := Aside0.mk (Kd.R_lower ho0 (below_size (by repeat (first | (with_reducible first | exact HB.out | apply below_alloc | apply pw_below_drewN | apply below_drew1 | refine below_set ?_ GE1034.out) | exact HB.out)))); have n1_ := Aside0.mk (blk_below (g := gb1034) (o := .cells #[.slice A0_0 l0_0.length c0_0, .int .i64 a0_1, .bool a0_2, .int .i64 a0_3, .int .i64 a0_4] 77 (0, 0)) (by (with_reducible repeat (first | refine blk_drewN ?_ _ | refine blk_drew ?_ | refine blk_alloc ?_ _)); exact BK1034.out) hb); have n2_ := Aside0.mk (below_step (by repeat (first | (with_reducible first | exact HB.out | apply below_alloc | apply pw_below_drewN | apply below_drew1 | refine below_set ?_ GE1034.out) | exact HB.out)) hb); clear BK1034; clear HB; have HO1037 := n0_; have BK1034 := n1_; have HB := n2_; clear n0_ n1_ n2_; (try clear hb); (try clear hb2); (try clear hk); (try clear hi); (try clear ho0)) | ((with_reducible refine gate_dst (N := 3) rfl ?_); (try (refine gate_guard (by rfl) ?_; dsimp only)); refine box_event ?hg (N := 3) ?hd (cs := #[.slice none 0 0, .int .i64 0, .bool false, .int .i64 0, .int .i64 0]) (t := 77) ?hr ?_; (case hd => rfl); (case hg => rfl); (case hr => first | (go_simp; done) | (go_simp; rfl)); intro gb1042 hg w39 hbox hb; have n0_ := Aside0.mk (Kd.R_below (by (with_reducible repeat (first | apply Kd.R_alloc | apply Kd.R_drewN | apply Kd.R_drew)); exact HO1037.out) hb); have n1_ := Aside0.mk (blk_below (g := gb1034) (o := .cells #[.slice A0_0 l0_0.length c0_0, .int .i64 a0_1, .bool a0_2, .int .i64 a0_3, .int .i64 a0_4] 77 (0, 0)) (by (with_reducible repeat (first | refine blk_drewN ?_ _ | refine blk_drew ?_ | refine blk_alloc ?_ _)); exact BK1034.out) hb); have n2_ := Aside0.mk (below_step (by repeat (first | (with_reducible first | exact HB.out | apply below_alloc | apply pw_below_drewN | apply below_drew1 | refine below_set ?_ GE1034.out) | exact HB.out)) hb); have n3_ := Aside0.mk (hbox); have n4_ := Aside0.mk ((by rw [hg]; exact (below_size (by repeat (first | (with_reducible first | exact HB.out | apply below_alloc | apply pw_below_drewN | apply below_drew1 | refine below_set ?_ GE1034.out) | exact HB.out))) : w.heap.size ≤ gb1042)); have n5_ := Aside0.mk ((by rw [hg]; exact (below_size (by repeat (first | (with_reducible first | exact HB.out | apply below_alloc | apply pw_below_drewN | apply below_drew1 | refine below_set ?_ GE1034.out) | exact HB.out))) : w.heap.size ≤ gb1042)); have n6_ := Aside0.mk ((by rw [hg]; exact Nat.ne_of_lt (blk_lt (g := gb1034) (o := .cells #[.slice A0_0 l0_0.length c0_0, .int .i64 a0_1, .bool a0_2, .int .i64 a0_3, .int .i64 a0_4] 77 (0, 0)) (by (with_reducible repeat (first | refine blk_drewN ?_ _ | refine blk_drew ?_ | refine blk_alloc ?_ _)); exact BK1034.out)) : gb1034 ≠ gb1042)); have n7_ := Aside0.mk ((by rw [hg]; exact Nat.ne_of_gt (blk_lt (g := gb1034) (o := .cells #[.slice A0_0 l0_0.length c0_0, .int .i64 a0_1, .bool a0_2, .int .i64 a0_3, .int .i64 a0_4] 77 (0, 0)) (by (with_reducible repeat (first | refine blk_drewN ?_ _ | refine blk_drew ?_ | refine blk_alloc ?_ _)); exact BK1034.out)) : gb1042 ≠ gb1034)); clear HO1037; clear BK1034; clear HB; have HO1037 := n0_; have BK1034 := n1_; have HB := n2_; have BK1042 := n3_; have GW1042 := n4_; have GE1042 := n5_; have NB1034_1042 := n6_; have NB1042_1034 := n7_; clear n0_ n1_ n2_ n3_ n4_ n5_ n6_ n7_; clear hb hbox hg; obtain ⟨Ao40, co40, eo40⟩ := Kd.R_slice HO1037.out; subst eo40; have hnb41 := NB1042_1034.out; have hnc41 := NB1034_1042.out; have hcz42_0 : w39.cell? ⟨gb1042, 0, none⟩ = some (.slice none 0 0) := (blk_cell BK1042.out 0).trans rfl; have hcz42_1 : w39.cell? ⟨gb1042, 1, none⟩ = some (.int .i64 0) := (blk_cell BK1042.out 1).trans rfl; have hcz42_2 : w39.cell? ⟨gb1042, 2, none⟩ = some (.bool false) := (blk_cell BK1042.out 2).trans rfl; have hcz42_3 : w39.cell? ⟨gb1042, 3, none⟩ = some (.int .i64 0) := (blk_cell BK1042.out 3).trans rfl; have hcz42_4 : w39.cell? ⟨gb1042, 4, none⟩ = some (.int .i64 0) := (blk_cell BK1042.out 4).trans rfl; have hfz42_0 := blk_frozen BK1042.out 0; have hfz42_1 := blk_frozen BK1042.out 1; have hfz42_2 := blk_frozen BK1042.out 2; have hfz42_3 := blk_frozen BK1042.out 3; have hfz42_4 := blk_frozen BK1042.out 4; have hcz43_0 : w39.cell? ⟨gb1034, 0, none⟩ = some (.slice A0_0 l0_0.length c0_0) := (blk_cell BK1034.out 0).trans rfl; have hcz43_1 : w39.cell? ⟨gb1034, 1, none⟩ = some (.int .i64 a0_1) := (blk_cell BK1034.out 1).trans rfl; have hcz43_2 : w39.cell? ⟨gb1034, 2, none⟩ = some (.bool a0_2) := (blk_cell BK1034.out 2).trans rfl; have hcz43_3 : w39.cell? ⟨gb1034, 3, none⟩ = some (.int .i64 a0_3) := (blk_cell BK1034.out 3).trans rfl; have hcz43_4 : w39.cell? ⟨gb1034, 4, none⟩ = some (.int .i64 a0_4) := (blk_cell BK1034.out 4).trans rfl; have hfz43_0 := blk_frozen BK1034.out 0; have hfz43_1 := blk_frozen BK1034.out 1; have hfz43_2 := blk_frozen BK1034.out 2; have hfz43_3 := blk_frozen BK1034.out 3; have hfz43_4 := blk_frozen BK1034.out 4))
    go_ret
    exact ⟨by first | rfl | (simp [errW_none, errW_some] <;> rfl) | (simp [*, errW_none, errW_some] <;> rfl), by repeat (first | (with_reducible first | exact HB.out | apply below_alloc | apply pw_below_drewN | apply below_drew1 | refine below_set ?_ GE1034.out | refine below_set ?_ GE1042.out) | exact HB.out)⟩
theorem spec_FeedOk.ev (l : List Int) (n : Int) (o : Bool) (fc fa : Int) (hb : isB l = true) : Ev (fun k => spec_FeedOk.f k l n o fc fa) (feedOkM l n o fc fa) := by
 unfold spec_FeedOk.f feedOkM
 by_cases h1 : fc = 1
 ·rw [if_pos h1]
  refine Ev.ip h1 ?_
  by_cases hfa : fa = 0
  ·refine Ev.ip hfa ?_
   by_cases hl : l.length = 0
   ·refine Ev.ip (by omega) ?_
    by_cases hn : n = 0
    ·exact Ev.ip hn (Ev.eq (Ev.now _) (by simp [hfa, hl, hn]))
    ·exact Ev.ng hn (Ev.eq (Ev.now _) (by simp [hn]))
   ·exact Ev.ng (by omega) (Ev.eq (Ev.now _) (by rw [decide_eq_false hl]; simp))
  ·exact Ev.ng hfa (Ev.eq (Ev.now _) (by simp [hfa]))
 ·rw [if_neg h1]
  refine Ev.ng h1 ?_
  by_cases h60 : 60000 < l.length
  ·rw [if_pos h60]
   exact Ev.ip (by omega) (Ev.now _)
  ·rw [if_neg h60]
   refine Ev.ng (by omega) (Ev.bind (spec_l20Tell.ev l hb (by omega)) ?_)
   by_cases hn : (feedM l).1 = n
   ·refine Ev.ip hn ?_
    by_cases ho : (feedM l).2.1 = o
    ·refine Ev.ip (by simp only []; rw [ho]; simp) (Ev.eq (Ev.now _) ?_)
     simp only []
     rw [hn, ho]
     simp only [decide_true, beq_self_eq_true, Bool.true_and]
     rw [Bool.eq_iff_iff]
     simp only [Bool.and_eq_true, beq_iff_eq, decide_eq_true_eq]
     exact ⟨fun h => ⟨h.1.symm, h.2.symm⟩, fun h => ⟨h.1.symm, h.2.symm⟩⟩
    ·refine Ev.ng (by simp only [beq_iff_eq]; exact ho) (Ev.eq (Ev.now _) ?_)
     rw [show (o == (feedM l).2.1) = false by rw [beq_eq_false_iff_ne]; exact fun e => ho e.symm]
     simp
   ·refine Ev.ng hn (Ev.eq (Ev.now _) ?_)
    rw [decide_eq_false (fun e => hn e.symm)]
    simp
end Go.Proofs.Ytcjjmfpkhhdmlaa.G

namespace Go.Proofs.Ytcjjmfpkhhdmlaa.G
open Go.RowKit Go.Proofs.YtcjjmfpkhhdmlaaW.PrintWords Go.Proofs.YtcjjmfpkhhdmlaaW.PrintLast Go.Proofs.YtcjjmfpkhhdmlaaW.PrintMore
attribute [local go_sem] max2_int min2_int max_two min_two max_three min_three max_four min_four   -- for this text's walks alone
--import Derived.WalkSpells
/-! slices.Grow and slices.Concat of bytes -/
set_option maxRecDepth 100000 in
set_option maxHeartbeats 4000000 in
theorem grow_calls (n : Int) (w : World) (h0 : 0 ≤ n) (h1 : n ≤ 1099511627776) :
  Calls Try.prog 169 #[.slice none 0 0, .int .i64 n] w fun e w' => ∃ v : Value, e = .returned v ∧ Kd.R (Kd.int .u8) 5 w' w.heap.size (fun _ => True) v [] ∧ Below w.heap.size w w' := by
 have z0 : wrap64 (0 - 0) = 0 := by unfold wrap64; omega
 have z1 : wrap64 (n - 0) = n := by unfold wrap64; omega
 have z2 : decide (n < 0) = false := decide_eq_false (by omega)
 by_cases hn : 0 < n
 ·have z3 : decide (0 < n) = true := decide_eq_true hn
  have z4 : decide (n > 0) = true := decide_eq_true hn
  go_enter Try.func169, Try.ntmps169
  go_wp2_with ((with_reducible refine gate_builtin (b := .append) (xs := #[.tmp 20, .tmp 21]) rfl ?_); at_builtin; go_loud (refine Kd.R_append_zeros (Kd.int .u8) (w0 := w) w.heap.size rfl (.tmp 20) (.tmp 21) 23 3 5 (.int .u8 0) 1 rfl Try.underlying23 Try.underlying3 info5 rfl (by decide) (by omega) _ [] 0 n (fun _ => True) rfl rfl ?m1 (fun _ _ => trivial) (Kd.R_nil _ _ _ _ _) h0 (Below.refl _ _) (Nat.le_refl _) (by simp; omega) ?_; (case m1 => rfl); intro v7 w3 ho hb hg hat); have HO3 := Aside0.mk ho; have HB3 := Aside0.mk hb; obtain ⟨A7, c7, e7⟩ := Kd.R_slice ho; subst e7; clear ho hb hg hat)
  go_ret
  exact ⟨_, rfl, by have := Kd.R_take (m := 0) HO3.out (by simp); simpa using this, HB3.out⟩
 ·have z3 : decide (0 < n) = false := decide_eq_false hn
  have z4 : decide (n > 0) = false := decide_eq_false hn
  go_enter Try.func169, Try.ntmps169
  go_wp2
  go_ret
  exact ⟨_, rfl, Kd.R_nil _ _ _ _ _, Below.refl _ _⟩
/-- how many numbers rows have -/
def totR (ls : List (List Int)) : Nat := (ls.map List.length).sum
theorem totR_take (ls : List (List Int)) (i : Nat) (h : i < ls.length) : totR (ls.take (i + 1)) = totR (ls.take i) + ls[i].length := by
 unfold totR
 rw [List.take_succ_eq_append_getElem h, List.map_append, List.sum_append]; simp
theorem totR_le (ls : List (List Int)) (i : Nat) : totR (ls.take i) ≤ totR ls := by
 have : totR ls = totR (ls.take i) + totR (ls.drop i) := by
  unfold totR
  rw [← List.sum_append, ← List.map_append, List.take_append_drop]
 omega
theorem totR_flat (ls : List (List Int)) : ls.flatten.length = totR ls := by rw [List.length_flatten]; rfl
set_option maxRecDepth 100000 in
set_option maxHeartbeats 4000000 in
theorem concat_calls (A : Option Addr) (c : Nat) (ls : List (List Int)) (w : World) (hr : Kd.C (Kd.slice 5 (Kd.int .u8)) w A ls.length ls) (hc : ls.length ≤ c) (hn : ls.length ≤ 1000) (hl : totR ls ≤ 1099511627776) :
  Calls Try.prog 142 #[.slice A ls.length c] w fun e w' => ∃ v : Value, e = .returned v ∧ Kd.R (Kd.int .u8) 5 w' w.heap.size (fun _ => True) v ls.flatten ∧ Below w.heap.size w w' := by
 have HR := Aside0.mk hr
 have HC := Aside0.mk hc
 clear hr hc
 go_enter Try.func142, Try.ntmps142
 go_wp2
 go_loopw [3, 11] (fun v3 v11 w' => ∃ i : Nat, v11 = .int .i64 i ∧ i ≤ ls.length ∧ v3 = .int .i64 (totR (ls.take i) : Nat) ∧ w' = w) (fun v3 v11 w' => ls.length - (intOf v11).toNat)
 case atStart => exact ⟨0, rfl, by omega, by simp [totR], rfl⟩
 case round =>
  obtain ⟨i, rfl, hi, rfl, hw⟩ := hrel
  replace hw := hw.symm
  subst hw
  have hle := totR_le ls i
  by_cases hlt : i < ls.length
  ·obtain ⟨ad, A1, c1, e1, hx, hl1, hi1⟩ := at_L8 HR.out (i : Int) (by omega) (by omega)
   cases e1
   rw [Int.toNat_natCast] at hx
   have hgl : rd_L8 ls i = ls[i] := by simp [rd_L8, hlt]
   have ht := totR_take ls i hlt
   have hle2 := totR_le ls (i + 1)
   rw [hgl] at hx
   have HT := Aside0.mk ht
   have hb1 : ls[i].length ≤ 1099511627776 := by omega
   have hs : (0 : Int) ≤ (totR (ls.take i) : Int) + (ls[i].length : Int) := by omega
   have hs2 : decide ((totR (ls.take i) : Int) + (ls[i].length : Int) < 0) = false := decide_eq_false (by omega)
   clear hl1 hi1 hgl ht hle2
   go_wp2
   go_roundw
   case rel => exact ⟨i + 1, by go_num, by omega, by rw [HT.out]; go_num, trivial⟩
   case measure => simp [intOf]; omega
  ·obtain rfl : i = ls.length := by omega
   rw [List.take_length] at hle ⊢
   go_wp2_with fail
   refine (grow_calls (totR ls) _ (by omega) (by omega)).mono ?_
   rintro e_ w2 ⟨v0, rfl, ho, hb⟩
   have HO := Aside0.mk ho
   have HB := Aside0.mk hb
   clear ho hb
   go_wp2
   go_loopw [6, 27] (fun v6 v27 w' => ∃ i : Nat, v27 = .int .i64 i ∧ i ≤ ls.length ∧ Aside0 (Kd.R (Kd.int .u8) 5 w' w.heap.size (fun _ => True) v6 (ls.take i).flatten) ∧ Aside0 (Below w.heap.size w w')) (fun v6 v27 w' => ls.length - (intOf v27).toNat)
   case atStart => exact ⟨0, rfl, by omega, ⟨by simpa using HO.out⟩, HB⟩
   case round =>
    clear HO HB
    obtain ⟨i, rfl, hi, HO, HB⟩ := hrel
    by_cases hlt : i < ls.length
    ·obtain ⟨ad, A1, c1, e1, hx, hl1, hi1⟩ := at_L8 HR.out (i : Int) (by omega) (by omega)
     cases e1
     rw [Int.toNat_natCast] at hx
     have hgl : rd_L8 ls i = ls[i] := by simp [rd_L8, hlt]
     have ht := totR_take ls i hlt
     have hle2 := totR_le ls (i + 1)
     rw [hgl] at hx hi1
     replace hx := (HB.out.cell (World.block_lt_of_cell? w _ hx)).trans hx
     have HI := Aside0.mk hi1
     have hfl : (ls.take i).flatten.length + ls[i].length ≤ 1099511627776 := by rw [totR_flat]; omega
     clear hl1 hi1 hgl ht hle2 hle
     go_wp2_with ((with_reducible refine gate_builtin (b := .append) (xs := #[.tmp 31, .tmp 32]) rfl ?_); at_builtin; go_loud (refine Kd.R_append_rows (Kd.int .u8) (w0 := w) w.heap.size rfl (.tmp 31) (.tmp 32) 23 5 (.int .u8 0) 1 rfl Try.underlying23 info5 rfl (by decide) (by omega) _ (ls.take i).flatten ls[i] _ _ _ (fun _ => True) (fun _ => False) rfl rfl HO.out (Kd.C_below HI.out HB.out) (fun _ _ h => h) (fun _ h => h.elim) (fun _ _ => trivial) HB.out HB.out.size (by omega) ?_; intro v7 w3 ho hb hg hat); have HO3 := Aside0.mk ho; have HB3 := Aside0.mk hb; clear ho hb hg hat)
     go_roundw
     case rel => exact ⟨i + 1, by go_num, by omega, ⟨by rw [List.take_succ_eq_append_getElem hlt, List.flatten_append]; simpa using HO3.out⟩, HB3⟩
     case measure => simp [intOf]; omega
    ·obtain rfl : i = ls.length := by omega
     go_wp2
     go_ret
     exact ⟨_, rfl, by have := HO.out; rwa [List.take_length] at this, HB.out⟩
end Go.Proofs.Ytcjjmfpkhhdmlaa.G

namespace Go.Proofs.Ytcjjmfpkhhdmlaa.G
open Go.RowKit Go.Proofs.YtcjjmfpkhhdmlaaW.PrintWords Go.Proofs.YtcjjmfpkhhdmlaaW.PrintLast Go.Proofs.YtcjjmfpkhhdmlaaW.PrintMore
attribute [local go_sem] max2_int min2_int max_two min_two max_three min_three max_four min_four   -- for this text's walks alone
/-! ### impl_Push: function 70 -/
--import Derived.BigRegion
set_option maxRecDepth 100000 in
set_option maxHeartbeats 4000000 in
theorem own_calls (A : Option Addr) (c : Nat) (l : List Int) (n : Int) (o : Bool) (fc fa : Int) (w : World) (hr : Kd.C (Kd.int .u8) w A l.length l) (hc : l.length ≤ c) (hl : l.length ≤ 1099511627776) :
    Calls Try.prog 141 #[.agg #[.slice A l.length c, .int .i64 n, .bool o, .int .i64 fc, .int .i64 fa]] w fun e w' => ∃ v : Value, e = .returned (.agg #[v, .int .i64 n, .bool o, .int .i64 fc, .int .i64 fa]) ∧ Kd.R (Kd.int .u8) 5 w' w.heap.size (fun _ => True) v l ∧ Below w.heap.size w w' := by
  have HR := Aside0.mk hr
  have HC := Aside0.mk hc
  clear hr hc
  go_enter Try.func141, Try.ntmps141
  go_upto_region 1 with (fail)
  have hq1 := blk_alloc (blk_new w (Obj.cells #[.slice A l.length c, .int .i64 n, .bool o, .int .i64 fc, .int .i64 fa] 77)) (Obj.cells #[.slice none 0 0, .int .i64 0, .bool false, .int .i64 0, .int .i64 0] 77)
  have hq2 := blk_new (w.alloc (Obj.cells #[.slice A l.length c, .int .i64 n, .bool o, .int .i64 fc, .int .i64 fa] 77)) (Obj.cells #[.slice none 0 0, .int .i64 0, .bool false, .int .i64 0, .int .i64 0] 77)
  rw [World.size_alloc] at hq2
  have HB1 := Aside0.mk (below_alloc (below_alloc (Below.refl w.heap.size w) (Obj.cells #[.slice A l.length c, .int .i64 n, .bool o, .int .i64 fc, .int .i64 fa] 77)) (Obj.cells #[.slice none 0 0, .int .i64 0, .bool false, .int .i64 0, .int .i64 0] 77))
  have hn0 : w.heap.size ≠ w.heap.size + 1 := by omega
  have hn1 : w.heap.size ≤ w.heap.size + 1 := by omega
  have hn2 : w.heap.size ≤ w.heap.size := by omega
  generalize hg2 : w.heap.size + 1 = g2 at hq2 hn0 hn1 ⊢
  generalize hg1 : w.heap.size = g1 at hq1 hn0 ⊢
  generalize (w.alloc (Obj.cells #[.slice A l.length c, .int .i64 n, .bool o, .int .i64 fc, .int .i64 fa] 77)).alloc (Obj.cells #[.slice none 0 0, .int .i64 0, .bool false, .int .i64 0, .int .i64 0] 77) = W1 at hq1 hq2 HB1 ⊢
  have HQ1 := Aside0.mk hq1
  have HQ2 := Aside0.mk hq2
  have HN1 := Aside0.mk (show w.heap.size ≤ g1 by omega)
  have HN2 := Aside0.mk (show w.heap.size ≤ g2 by omega)
  have q0 := blk_cell hq1 0
  simp at q0
  clear hq1 hq2 hn1 hn2 hg1 hg2
  go_wp2_with fail
  refine (clone_calls A c l _ (Kd.C_below HR.out HB1.out) HC.out hl).mono ?_
  rintro e_ w2 ⟨v, rfl, ho, hb2⟩
  obtain ⟨A2, c2, e2⟩ := Kd.R_slice ho
  subst e2
  have HO := Aside0.mk (Kd.R_lower ho HB1.out.size)
  have HQ3 := Aside0.mk (blk_below HQ1.out hb2)
  have HQ4 := Aside0.mk (blk_below HQ2.out hb2)
  have HB2 := Aside0.mk (Below.trans HB1.out (hb2.mono HB1.out.size))
  clear hb2 ho q0 HQ1 HQ2
  have q0 := blk_cell HQ3.out 0
  have q1 := blk_cell HQ3.out 1
  have q2 := blk_cell HQ3.out 2
  have q3 := blk_cell HQ3.out 3
  have q4 := blk_cell HQ3.out 4
  have p0 := blk_cell HQ4.out 0
  have p1 := blk_cell HQ4.out 1
  have p2 := blk_cell HQ4.out 2
  have p3 := blk_cell HQ4.out 3
  have p4 := blk_cell HQ4.out 4
  simp at q0 q1 q2 q3 q4 p0 p1 p2 p3 p4
  have f0 := blk_frozen HQ3.out 0
  have j0 := blk_frozen HQ4.out 0
  have j1 := blk_frozen HQ4.out 1
  have j2 := blk_frozen HQ4.out 2
  have j3 := blk_frozen HQ4.out 3
  have j4 := blk_frozen HQ4.out 4
  have hn3 : g2 ≠ g1 := fun e => hn0 e.symm
  go_wp2
  have e0 := blk_far HQ4.out (p := ⟨g1, 0, none⟩) (fun e => hn0 e.symm) (.slice A2 l.length c2)
  have e1 := blk_set (blk_set (blk_set (blk_set (blk_set e0 0 (.slice A2 l.length c2)) 1 (.int .i64 n)) 2 (.bool o)) 3 (.int .i64 fc)) 4 (.int .i64 fa)
  refine bodyPost_ret (results_cell_row rfl _ _ g2 77 #[.slice A2 l.length c2, .int .i64 n, .bool o, .int .i64 fc, .int .i64 fa] (0, 0) _ rfl (by exact e1) Try.underlying77 rfl (by kernel_rfl)) rfl ?_
  have r1 := Kd.R_set HO.out HQ3.out (by decide) 0 (.slice A2 l.length c2)
  have r2 := Kd.R_set (Kd.R_set (Kd.R_set (Kd.R_set (Kd.R_set r1 e0 (by decide) 0 (.slice A2 l.length c2)) (blk_set e0 0 (.slice A2 l.length c2)) (by decide) 1 (.int .i64 n)) (blk_set (blk_set e0 0 (.slice A2 l.length c2)) 1 (.int .i64 n)) (by decide) 2 (.bool o)) (blk_set (blk_set (blk_set e0 0 (.slice A2 l.length c2)) 1 (.int .i64 n)) 2 (.bool o)) (by decide) 3 (.int .i64 fc)) (blk_set (blk_set (blk_set (blk_set e0 0 (.slice A2 l.length c2)) 1 (.int .i64 n)) 2 (.bool o)) 3 (.int .i64 fc)) (by decide) 4 (.int .i64 fa)
  exact ⟨_, rfl, r2, below_set (below_set (below_set (below_set (below_set (below_set HB2.out HN1.out) HN2.out) HN2.out) HN2.out) HN2.out) HN2.out⟩
set_option maxRecDepth 100000 in
set_option maxHeartbeats 4000000 in
theorem feedOf_long (A : Option Addr) (c : Nat) (l : List Int) (w : World) (hc : l.length ≤ c) (hlen : 60000 < l.length) (h2 : l.length ≤ 1099511627776) :
    Calls Try.prog 140 #[.slice A l.length c] w fun e w' => e = .returned (.agg #[.slice none 0 0, .int .i64 0, .bool false, .int .i64 1, .int .i64 0]) ∧ Below w.heap.size w w' := by
  have HC := Aside0.mk hc
  have z1 : decide ((60000 : Int) < (l.length : Int)) = true := decide_eq_true (by omega)
  clear hc
  go_enter Try.func140, Try.ntmps140
  go_upto_region 1 with (fail)
  have hq := blk_new w (Obj.cells #[.slice none 0 0, .int .i64 0, .bool false, .int .i64 0, .int .i64 0] 77)
  have HB1 := Aside0.mk (below_alloc (Below.refl w.heap.size w) (Obj.cells #[.slice none 0 0, .int .i64 0, .bool false, .int .i64 0, .int .i64 0] 77))
  have hgq0 : w.heap.size ≤ w.heap.size := Nat.le_refl _
  generalize hgqe : w.heap.size = gq at hq ⊢
  generalize w.alloc (Obj.cells #[.slice none 0 0, .int .i64 0, .bool false, .int .i64 0, .int .i64 0] 77) = W1 at hq HB1 ⊢
  have HQ := Aside0.mk hq
  have HG := Aside0.mk (show w.heap.size ≤ gq by omega)
  have q0 := blk_cell HQ.out 0
  have q1 := blk_cell HQ.out 1
  have q2 := blk_cell HQ.out 2
  have q3 := blk_cell HQ.out 3
  have q4 := blk_cell HQ.out 4
  simp at q0 q1 q2 q3 q4
  have f0 := blk_frozen HQ.out 0
  have f1 := blk_frozen HQ.out 1
  have f2 := blk_frozen HQ.out 2
  have f3 := blk_frozen HQ.out 3
  have f4 := blk_frozen HQ.out 4
  clear hq hgqe hgq0
  go_wp2
  have e1 := blk_set (blk_set (blk_set (blk_set (blk_set HQ.out 0 (.slice none 0 0)) 1 (.int .i64 0)) 2 (.bool false)) 3 (.int .i64 1)) 4 (.int .i64 0)
  refine bodyPost_ret (results_cell_row rfl _ _ gq 77 #[.slice none 0 0, .int .i64 0, .bool false, .int .i64 1, .int .i64 0] (0, 0) _ rfl (by exact e1) Try.underlying77 rfl (by kernel_rfl)) rfl ?_
  exact ⟨rfl, below_set (below_set (below_set (below_set (below_set HB1.out HG.out) HG.out) HG.out) HG.out) HG.out⟩
/-- a feed behind one more piece -/
def pushM (l : List Int) (n : Int) (o : Bool) (fc fa : Int) (m : List Int) : List Int × Int × Bool × Int × Int :=
  if feedOkM l n o fc fa = false then ([], 0, false, 0, 0) else if fc ≠ 0 then (l, n, o, fc, fa)
  else if 60000 < (l ++ m).length then ([], 0, false, 1, 0) else (l ++ m, (feedM (l ++ m)).1, (feedM (l ++ m)).2.1, (feedM (l ++ m)).2.2.1, (feedM (l ++ m)).2.2.2)
theorem pushTold {w W : World} {g : Nat} {v : Value} {l : List Int} {cs : Array Value} {x0 x1 x2 x3 x4 : Value} (hR : Kd.R (Kd.int .u8) 5 W w.heap.size (fun _ => True) v l) (hq : W.heap[g]? = some (.cells cs 77 (0, 0))) (hB : Below w.heap.size w W) (hg : w.heap.size ≤ g) :
    Kd.R (Kd.int .u8) 5 (((((W.setCell ⟨g, 0, none⟩ x0).setCell ⟨g, 1, none⟩ x1).setCell ⟨g, 2, none⟩ x2).setCell ⟨g, 3, none⟩ x3).setCell ⟨g, 4, none⟩ x4) w.heap.size (fun _ => True) v l ∧ Below w.heap.size w (((((W.setCell ⟨g, 0, none⟩ x0).setCell ⟨g, 1, none⟩ x1).setCell ⟨g, 2, none⟩ x2).setCell ⟨g, 3, none⟩ x3).setCell ⟨g, 4, none⟩ x4) :=
  ⟨Kd.R_set (Kd.R_set (Kd.R_set (Kd.R_set (Kd.R_set hR hq (by decide) 0 x0) (blk_set hq 0 x0) (by decide) 1 x1) (blk_set (blk_set hq 0 x0) 1 x1) (by decide) 2 x2) (blk_set (blk_set (blk_set hq 0 x0) 1 x1) 2 x2) (by decide) 3 x3) (blk_set (blk_set (blk_set (blk_set hq 0 x0) 1 x1) 2 x2) 3 x3) (by decide) 4 x4,
    below_set (below_set (below_set (below_set (below_set hB hg) hg) hg) hg) hg⟩
/-- two rows behind one another -/
theorem two_rows {W : World} {A Am : Option Addr} {c cm : Nat} {l m : List Int} (hr : Kd.C (Kd.int .u8) W A l.length l) (hc : l.length ≤ c) (hrm : Kd.C (Kd.int .u8) W Am m.length m) (hcm : m.length ≤ cm) (g : Nat)
    (h0 : W.cell? ⟨g, 0, none⟩ = some (.slice A l.length c)) (h1 : W.cell? ⟨g, 1, none⟩ = some (.slice Am m.length cm)) : Kd.C (Kd.slice 5 (Kd.int .u8)) W (some ⟨g, 0, none⟩) 2 [l, m] := by
  refine ⟨rfl, by omega, fun _ => ⟨_, rfl, fun j p hj => ?_⟩⟩
  match j, hj with
  | 0, hj =>
    obtain rfl : l = p := by simpa using hj
    refine ⟨[.slice A l.length c], rfl, ⟨A, c, rfl, hc, hr⟩, fun i u hu => ?_⟩
    match i, hu with
    | 0, hu => obtain rfl : Value.slice A l.length c = u := by simpa using hu
               rw [show (0 * (Kd.slice 5 (Kd.int .u8)).sz + 0) = 0 by omega, add_plain]; exact h0
  | 1, hj =>
    obtain rfl : m = p := by simpa using hj
    refine ⟨[.slice Am m.length cm], rfl, ⟨Am, cm, rfl, hcm, hrm⟩, fun i u hu => ?_⟩
    match i, hu with
    | 0, hu => obtain rfl : Value.slice Am m.length cm = u := by simpa using hu
               rw [show (1 * (Kd.slice 5 (Kd.int .u8)).sz + 0) = 1 from rfl, add_plain]; exact h1
set_option maxRecDepth 100000 in
set_option maxHeartbeats 4000000 in
theorem push_calls (A : Option Addr) (c : Nat) (l : List Int) (n : Int) (o : Bool) (fc fa : Int) (Am : Option Addr) (cm : Nat) (m : List Int) (w : World) (hr : Kd.C (Kd.int .u8) w A l.length l) (hc : l.length ≤ c) (hrm : Kd.C (Kd.int .u8) w Am m.length m) (hcm : m.length ≤ cm)
    (hb : isB l = true) (hl : l.length ≤ 1048576) (hbm : isB m = true) (hm : m.length ≤ 1048576) :
    Calls Try.prog 70 #[.agg #[.slice A l.length c, .int .i64 n, .bool o, .int .i64 fc, .int .i64 fa], .slice Am m.length cm] w fun e w' => ∃ v : Value, e = .returned (.agg #[v, .int .i64 (pushM l n o fc fa m).2.1, .bool (pushM l n o fc fa m).2.2.1, .int .i64 (pushM l n o fc fa m).2.2.2.1, .int .i64 (pushM l n o fc fa m).2.2.2.2]) ∧ Kd.R (Kd.int .u8) 5 w' w.heap.size (fun _ => True) v (pushM l n o fc fa m).1 ∧ Below w.heap.size w w' := by
  obtain ⟨ok, hok⟩ : ∃ ok, ok = feedOkM l n o fc fa := ⟨_, rfl⟩
  obtain ⟨pm, hpm⟩ : ∃ pm, pm = pushM l n o fc fa m := ⟨_, rfl⟩
  rw [← hpm]
  unfold pushM at hpm
  rw [← hok] at hpm
  have HF := Aside0.mk (show impl_FeedOk.f l n o fc fa = some ok by unfold impl_FeedOk.f; rw [if_pos ⟨hb, hl⟩, hok])
  have HR := Aside0.mk hr
  have HC := Aside0.mk hc
  have HRM := Aside0.mk hrm
  have HCM := Aside0.mk hcm
  have HBL := Aside0.mk hb
  have HBM := Aside0.mk hbm
  have HP := Aside0.mk hpm
  clear hr hc hrm hcm hb hbm hok hpm
  go_enter Try.func70, Try.ntmps70
  go_upto_region 1 with (fail)
  have hq1 := blk_alloc (blk_new w (Obj.cells #[.slice A l.length c, .int .i64 n, .bool o, .int .i64 fc, .int .i64 fa] 77)) (Obj.cells #[.slice none 0 0, .int .i64 0, .bool false, .int .i64 0, .int .i64 0] 77)
  have hq2 := blk_new (w.alloc (Obj.cells #[.slice A l.length c, .int .i64 n, .bool o, .int .i64 fc, .int .i64 fa] 77)) (Obj.cells #[.slice none 0 0, .int .i64 0, .bool false, .int .i64 0, .int .i64 0] 77)
  rw [World.size_alloc] at hq2
  have HB1 := Aside0.mk (below_alloc (below_alloc (Below.refl w.heap.size w) (Obj.cells #[.slice A l.length c, .int .i64 n, .bool o, .int .i64 fc, .int .i64 fa] 77)) (Obj.cells #[.slice none 0 0, .int .i64 0, .bool false, .int .i64 0, .int .i64 0] 77))
  have hn0 : w.heap.size ≠ w.heap.size + 1 := by omega
  have hn1 : w.heap.size ≤ w.heap.size + 1 := by omega
  have hn2 : w.heap.size ≤ w.heap.size := by omega
  generalize hg2 : w.heap.size + 1 = g2 at hq2 hn0 hn1 ⊢
  generalize hg1 : w.heap.size = g1 at hq1 hn0 ⊢
  generalize (w.alloc (Obj.cells #[.slice A l.length c, .int .i64 n, .bool o, .int .i64 fc, .int .i64 fa] 77)).alloc (Obj.cells #[.slice none 0 0, .int .i64 0, .bool false, .int .i64 0, .int .i64 0] 77) = W1 at hq1 hq2 HB1 ⊢
  have HQ1 := Aside0.mk hq1
  have HQ2 := Aside0.mk hq2
  have HN1 := Aside0.mk (show w.heap.size ≤ g1 by omega)
  have HN2 := Aside0.mk (show w.heap.size ≤ g2 by omega)
  have q0 := blk_cell hq1 0
  have q1 := blk_cell hq1 1
  have q2 := blk_cell hq1 2
  have q3 := blk_cell hq1 3
  have q4 := blk_cell hq1 4
  simp at q0 q1 q2 q3 q4
  clear hq1 hq2 hn1 hn2 hg1 hg2
  go_wp2_with fail
  refine (impl_FeedOk.calls A c l n o fc fa ok _ (Kd.C_below HR.out HB1.out) HC.out HF.out).mono ?_
  rintro e_ w2 ⟨rfl, hb2⟩
  have HQ3 := Aside0.mk (blk_below HQ1.out hb2)
  have HQ4 := Aside0.mk (blk_below HQ2.out hb2)
  have HB2 := Aside0.mk (Below.trans HB1.out (hb2.mono HB1.out.size))
  clear hb2 HQ1 HQ2 q0 q1 q2 q3 q4
  have q0 := blk_cell HQ3.out 0
  have q1 := blk_cell HQ3.out 1
  have q2 := blk_cell HQ3.out 2
  have q3 := blk_cell HQ3.out 3
  have q4 := blk_cell HQ3.out 4
  have p0 := blk_cell HQ4.out 0
  have p1 := blk_cell HQ4.out 1
  have p2 := blk_cell HQ4.out 2
  have p3 := blk_cell HQ4.out 3
  have p4 := blk_cell HQ4.out 4
  simp at q0 q1 q2 q3 q4 p0 p1 p2 p3 p4
  have j0 := blk_frozen HQ4.out 0
  have j1 := blk_frozen HQ4.out 1
  have j2 := blk_frozen HQ4.out 2
  have j3 := blk_frozen HQ4.out 3
  have j4 := blk_frozen HQ4.out 4
  have hn3 : g2 ≠ g1 := fun e => hn0 e.symm
  cases ok with
  | false =>
    have hp := HP.out
    rw [if_pos rfl] at hp
    subst hp
    go_wp2
    have e1 := blk_set (blk_set (blk_set (blk_set (blk_set HQ4.out 0 (.slice none 0 0)) 1 (.int .i64 0)) 2 (.bool false)) 3 (.int .i64 0)) 4 (.int .i64 0)
    refine bodyPost_ret (results_cell_row rfl _ _ g2 77 #[.slice none 0 0, .int .i64 0, .bool false, .int .i64 0, .int .i64 0] (0, 0) _ rfl (by exact e1) Try.underlying77 rfl (by kernel_rfl)) rfl ?_
    have hT := pushTold (x0 := .slice none 0 0) (x1 := .int .i64 0) (x2 := .bool false) (x3 := .int .i64 0) (x4 := .int .i64 0) (Kd.R_nil (Kd.int .u8) 5 w2 w.heap.size (fun _ => True)) HQ4.out HB2.out HN2.out
    exact ⟨_, rfl, hT.1, hT.2⟩
  | true =>
    by_cases hfc : fc = 0
    · subst hfc
      have hp := HP.out
      rw [if_neg (by decide), if_neg (by decide)] at hp
      replace HP := Aside0.mk hp
      clear hp
      go_wp2_with fail
      have hal := blk_new w2 (Obj.cells #[.slice A l.length c, .slice Am m.length cm] 23)
      have HQ5 := Aside0.mk (blk_alloc HQ4.out (Obj.cells #[.slice A l.length c, .slice Am m.length cm] 23))
      have HB3 := Aside0.mk (below_alloc HB2.out (Obj.cells #[.slice A l.length c, .slice Am m.length cm] 23))
      generalize w2.heap.size = g3 at hal ⊢
      generalize w2.alloc (Obj.cells #[.slice A l.length c, .slice Am m.length cm] 23) = W3 at hal HQ5 HB3 ⊢
      have HAL := Aside0.mk hal
      clear hal q0 q1 q2 q3 q4 p0 p1 p2 p3 p4 j0 j1 j2 j3 j4 HQ3 HQ4
      have hnl : (l ++ m).length = l.length + m.length := List.length_append
      refine (concat_calls (some ⟨g3, 0, none⟩) 2 [l, m] _ (two_rows (Kd.C_below HR.out HB3.out) HC.out (Kd.C_below HRM.out HB3.out) HCM.out g3 (blk_cell HAL.out 0) (blk_cell HAL.out 1)) (by simp) (by simp) (by simp [totR]; omega)).mono ?_
      rintro e_ w3 ⟨v, rfl, ho, hb3⟩
      rw [show [l, m].flatten = l ++ m by simp] at ho
      have hbl : isB (l ++ m) = true := by have h1 := HBL.out; have h2 := HBM.out; unfold isB at h1 h2 ⊢; rw [List.all_append, h1, h2]; rfl
      generalize l ++ m = t at ho HP hbl hnl
      have hnt : t.length ≤ 1099511627776 := by omega
      have HBA := Aside0.mk hbl
      clear hbl hnl
      obtain ⟨A3, c3, e3⟩ := Kd.R_slice ho
      subst e3
      have HO := Aside0.mk (Kd.R_lower ho HB3.out.size)
      have HQ6 := Aside0.mk (blk_below HQ5.out hb3)
      have HB4 := Aside0.mk (Below.trans HB3.out (hb3.mono HB3.out.size))
      clear hb3 ho HQ5 HAL
      by_cases h60 : 60000 < t.length
      · have hp := HP.out
        rw [if_pos h60] at hp
        subst hp
        go_wp2_with fail
        refine (feedOf_long A3 c3 t _ (Kd.R_reads' HO.out).2.1 h60 (by omega)).mono ?_
        rintro e_ w4 ⟨rfl, hb4⟩
        have HQ7 := Aside0.mk (blk_below HQ6.out hb4)
        have HB5 := Aside0.mk (Below.trans HB4.out (hb4.mono HB4.out.size))
        clear hb4
        have p0 := blk_cell HQ7.out 0
        have p1 := blk_cell HQ7.out 1
        have p2 := blk_cell HQ7.out 2
        have p3 := blk_cell HQ7.out 3
        have p4 := blk_cell HQ7.out 4
        simp at p0 p1 p2 p3 p4
        have j0 := blk_frozen HQ7.out 0
        have j1 := blk_frozen HQ7.out 1
        have j2 := blk_frozen HQ7.out 2
        have j3 := blk_frozen HQ7.out 3
        have j4 := blk_frozen HQ7.out 4
        go_wp2
        have e1 := blk_set (blk_set (blk_set (blk_set (blk_set HQ7.out 0 (.slice none 0 0)) 1 (.int .i64 0)) 2 (.bool false)) 3 (.int .i64 1)) 4 (.int .i64 0)
        refine bodyPost_ret (results_cell_row rfl _ _ g2 77 #[.slice none 0 0, .int .i64 0, .bool false, .int .i64 1, .int .i64 0] (0, 0) _ rfl (by exact e1) Try.underlying77 rfl (by kernel_rfl)) rfl ?_
        have hT := pushTold (x0 := .slice none 0 0) (x1 := .int .i64 0) (x2 := .bool false) (x3 := .int .i64 1) (x4 := .int .i64 0) (Kd.R_nil (Kd.int .u8) 5 w4 w.heap.size (fun _ => True)) HQ7.out HB5.out HN2.out
        exact ⟨_, rfl, hT.1, hT.2⟩
      · have hp := HP.out
        rw [if_neg h60] at hp
        subst hp
        go_wp2_with fail
        refine (feedOf_calls A3 c3 t _ (Kd.R_reads' HO.out).2.2 (Kd.R_reads' HO.out).2.1 HBA.out (by omega)).mono ?_
        rintro e_ w4 ⟨rfl, hb4⟩
        obtain ⟨m1, hm1⟩ : ∃ q, q = (feedM t).1 := ⟨_, rfl⟩
        obtain ⟨m2, hm2⟩ : ∃ q, q = (feedM t).2.1 := ⟨_, rfl⟩
        obtain ⟨m3, hm3⟩ : ∃ q, q = (feedM t).2.2.1 := ⟨_, rfl⟩
        obtain ⟨m4, hm4⟩ : ∃ q, q = (feedM t).2.2.2 := ⟨_, rfl⟩
        rw [← hm1, ← hm2, ← hm3, ← hm4]
        have HO2 := Aside0.mk (Kd.R_below HO.out hb4)
        have HQ7 := Aside0.mk (blk_below HQ6.out hb4)
        have HB5 := Aside0.mk (Below.trans HB4.out (hb4.mono HB4.out.size))
        have HM := Aside0.mk (And.intro hm1 (And.intro hm2 (And.intro hm3 hm4)))
        clear hb4 hm1 hm2 hm3 hm4
        have p0 := blk_cell HQ7.out 0
        have p1 := blk_cell HQ7.out 1
        have p2 := blk_cell HQ7.out 2
        have p3 := blk_cell HQ7.out 3
        have p4 := blk_cell HQ7.out 4
        simp at p0 p1 p2 p3 p4
        have j0 := blk_frozen HQ7.out 0
        have j1 := blk_frozen HQ7.out 1
        have j2 := blk_frozen HQ7.out 2
        have j3 := blk_frozen HQ7.out 3
        have j4 := blk_frozen HQ7.out 4
        go_wp2
        have e1 := blk_set (blk_set (blk_set (blk_set (blk_set HQ7.out 0 (.slice A3 t.length c3)) 1 (.int .i64 m1)) 2 (.bool m2)) 3 (.int .i64 m3)) 4 (.int .i64 m4)
        refine bodyPost_ret (results_cell_row rfl _ _ g2 77 #[.slice A3 t.length c3, .int .i64 m1, .bool m2, .int .i64 m3, .int .i64 m4] (0, 0) _ rfl (by exact e1) Try.underlying77 rfl (by kernel_rfl)) rfl ?_
        have hT := pushTold (x0 := .slice A3 t.length c3) (x1 := .int .i64 m1) (x2 := .bool m2) (x3 := .int .i64 m3) (x4 := .int .i64 m4) HO2.out HQ7.out HB5.out HN2.out
        obtain ⟨u1, u2, u3, u4⟩ := HM.out
        exact ⟨_, by rw [u1, u2, u3, u4], hT.1, hT.2⟩
    · have hz : (fc != 0) = true := by simpa using hfc
      have hz2 : (fc == 0) = false := by simpa using hfc
      have hp := HP.out
      rw [if_neg (by decide), if_pos hfc] at hp
      subst hp
      have HFC := Aside0.mk hfc
      clear hfc
      go_wp2_with fail
      refine (own_calls A c l n o fc fa _ (Kd.C_below HR.out HB2.out) HC.out (by omega)).mono ?_
      rintro e_ w3 ⟨v, rfl, ho, hb3⟩
      obtain ⟨A3, c3, e3⟩ := Kd.R_slice ho
      subst e3
      have HO := Aside0.mk (Kd.R_lower ho HB2.out.size)
      have HQ5 := Aside0.mk (blk_below HQ4.out hb3)
      have HB3 := Aside0.mk (Below.trans HB2.out (hb3.mono HB2.out.size))
      clear hb3 ho q0 q1 q2 q3 q4 p0 p1 p2 p3 p4 j0 j1 j2 j3 j4 HQ3 HQ4
      have p0 := blk_cell HQ5.out 0
      have p1 := blk_cell HQ5.out 1
      have p2 := blk_cell HQ5.out 2
      have p3 := blk_cell HQ5.out 3
      have p4 := blk_cell HQ5.out 4
      simp at p0 p1 p2 p3 p4
      have j0 := blk_frozen HQ5.out 0
      have j1 := blk_frozen HQ5.out 1
      have j2 := blk_frozen HQ5.out 2
      have j3 := blk_frozen HQ5.out 3
      have j4 := blk_frozen HQ5.out 4
      go_wp2
      have e1 := blk_set (blk_set (blk_set (blk_set (blk_set HQ5.out 0 (.slice A3 l.length c3)) 1 (.int .i64 n)) 2 (.bool o)) 3 (.int .i64 fc)) 4 (.int .i64 fa)
      refine bodyPost_ret (results_cell_row rfl _ _ g2 77 #[.slice A3 l.length c3, .int .i64 n, .bool o, .int .i64 fc, .int .i64 fa] (0, 0) _ rfl (by exact e1) Try.underlying77 rfl (by kernel_rfl)) rfl ?_
      have hT := pushTold (x0 := .slice A3 l.length c3) (x1 := .int .i64 n) (x2 := .bool o) (x3 := .int .i64 fc) (x4 := .int .i64 fa) HO.out HQ5.out HB3.out HN2.out
      exact ⟨_, rfl, hT.1, hT.2⟩
def impl_Push.f (l0_0 : List Int) (a0_1 : Int) (a0_2 : Bool) (a0_3 : Int) (a0_4 : Int) (l1 : List Int) : Option (List Int × Int × Bool × Int × Int) := if isB l0_0 ∧ l0_0.length ≤ 1048576 ∧ isB l1 ∧ l1.length ≤ 1048576 then some (pushM l0_0 a0_1 a0_2 a0_3 a0_4 l1) else none
theorem impl_Push.calls (A0_0 : Option Addr) (c0_0 : Nat) (l0_0 : List Int) (a0_1 : Int) (a0_2 : Bool) (a0_3 : Int) (a0_4 : Int) (A1 : Option Addr) (c1 : Nat) (l1 : List Int) (r1 : List Int) (r2 : Int) (r3 : Bool) (r4 : Int) (r5 : Int) (w : World) (hr0_0 : Kd.C (Kd.int .u8) w A0_0 l0_0.length l0_0) (hc0_0 : l0_0.length ≤ c0_0) (hr1 : Kd.C (Kd.int .u8) w A1 l1.length l1) (hc1 : l1.length ≤ c1) (h : impl_Push.f l0_0 a0_1 a0_2 a0_3 a0_4 l1 = some (r1, r2, r3, r4, r5)) :
    Calls Try.prog 70 #[.agg #[.slice A0_0 l0_0.length c0_0, .int .i64 a0_1, .bool a0_2, .int .i64 a0_3, .int .i64 a0_4], .slice A1 l1.length c1] w fun e w' => ∃ v0_ : Value, e = .returned (.agg #[v0_, .int .i64 r2, .bool r3, .int .i64 r4, .int .i64 r5]) ∧ Kd.R (Kd.int .u8) 5 w' w.heap.size (fun _ => True) v0_ r1 ∧ Below w.heap.size w w' := by
  unfold impl_Push.f at h
  split at h
  · rename_i hc
    have hp := push_calls A0_0 c0_0 l0_0 a0_1 a0_2 a0_3 a0_4 A1 c1 l1 w hr0_0 hc0_0 hr1 hc1 hc.1 hc.2.1 hc.2.2.1 hc.2.2.2
    rw [Option.some.inj h] at hp
    exact hp
  · cases h
end Go.Proofs.Ytcjjmfpkhhdmlaa.G

namespace Go.Proofs.Ytcjjmfpkhhdmlaa.G
open Go.RowKit Go.Proofs.YtcjjmfpkhhdmlaaW.PrintWords Go.Proofs.YtcjjmfpkhhdmlaaW.PrintLast Go.Proofs.YtcjjmfpkhhdmlaaW.PrintMore
attribute [local go_sem] max2_int min2_int max_two min_two max_three min_three max_four min_four   -- for this text's walks alone
/-! ### spec_Push: function 69 -/
def spec_Push.f (k : Nat) (l0_0 : List Int) (a0_1 : Int) (a0_2 : Bool) (a0_3 : Int) (a0_4 : Int) (l1 : List Int) : Option (List Int × Int × Bool × Int × Int) := (spec_FeedOk.f k l0_0 a0_1 a0_2 a0_3 a0_4).bind fun t1075 => (if t1075 = true then (if a0_3 = 0 then ((some (([] : List Int) : List Int)).bind fun y1076 => (if y1076.length + l0_0.length < 140737488355328 then ((some (y1076 ++ l0_0 : List Int)).bind fun y1079 => (if y1079.length + l1.length < 140737488355328 then ((spec_l20Tell.f k (y1079 ++ l1)).bind fun bt1085 => (some (bt1085.1, bt1085.2.1, bt1085.2.2.1, bt1085.2.2.2.1, bt1085.2.2.2.2))) else (none))) else (none))) else ((some (([] : List Int) : List Int)).bind fun y1092 => (if y1092.length + l0_0.length < 140737488355328 then (some ((y1092 ++ l0_0), a0_1, a0_2, a0_3, a0_4)) else (none)))) else (some (([] : List Int), 0, false, 0, 0)))
theorem spec_Push.mono : ∀ a0 a1 a2 a3 a4 a5 k, LeO (spec_Push.f k a0 a1 a2 a3 a4 a5) (spec_Push.f (k + 1) a0 a1 a2 a3 a4 a5) := by
 intro a0 a1 a2 a3 a4 a5 k
 unfold spec_Push.f
 repeat' first
   | (with_reducible exact spec_FeedOk.mono _ _ _ _ _ _)
   | (with_reducible exact spec_l20Tell.mono _ _)
   | (with_reducible exact LeO.refl _)
   | (with_reducible exact LeO.none _)
   | (with_reducible refine LeO.ite ?_ ?_)
   | (with_reducible refine LeO.bind ?_ (fun _ => ?_))
   | exact spec_FeedOk.mono _ _ _ _ _ _
   | exact spec_l20Tell.mono _ _
   | exact LeO.none _
   | refine LeO.ite ?_ ?_
   | refine LeO.bind ?_ (fun _ => ?_)
set_option maxHeartbeats 8000000 in
set_option maxRecDepth 100000 in
theorem spec_Push.calls (k : Nat) (A0_0 : Option Addr) (c0_0 : Nat) (l0_0 : List Int) (a0_1 : Int) (a0_2 : Bool) (a0_3 : Int) (a0_4 : Int) (A1 : Option Addr) (c1 : Nat) (l1 : List Int) (r1 : List Int) (r2 : Int) (r3 : Bool) (r4 : Int) (r5 : Int) (w : World) (hr0_0 : Kd.C (Kd.int .u8) w A0_0 l0_0.length l0_0) (hc0_0 : l0_0.length ≤ c0_0) (hr1 : Kd.C (Kd.int .u8) w A1 l1.length l1) (hc1 : l1.length ≤ c1) (h : spec_Push.f k l0_0 a0_1 a0_2 a0_3 a0_4 l1 = some (r1, r2, r3, r4, r5)) :
  Calls Try.prog 69 #[.agg #[.slice A0_0 l0_0.length c0_0, .int .i64 a0_1, .bool a0_2, .int .i64 a0_3, .int .i64 a0_4], .slice A1 l1.length c1] w fun e w' => ∃ v0_ : Value, e = .returned (.agg #[v0_, .int .i64 r2, .bool r3, .int .i64 r4, .int .i64 r5]) ∧ Kd.R (Kd.int .u8) 5 w' w.heap.size (fun _ => True) v0_ r1 ∧ Below w.heap.size w w' := by
 have hu77 := Try.underlying77
 have HR0_0 := Aside0.mk hr0_0
 have HC0_0 := Aside0.mk hc0_0
 clear hr0_0 hc0_0
 have HR1 := Aside0.mk hr1
 have HC1 := Aside0.mk hc1
 clear hr1 hc1
 have HB := Aside0.mk (Below.refl w.heap.size w)
 have H : ((spec_FeedOk.f k l0_0 a0_1 a0_2 a0_3 a0_4).bind fun t1075 => (if t1075 = true then (if a0_3 = 0 then ((some (([] : List Int) : List Int)).bind fun y1076 => (if y1076.length + l0_0.length < 140737488355328 then ((some (y1076 ++ l0_0 : List Int)).bind fun y1079 => (if y1079.length + l1.length < 140737488355328 then ((spec_l20Tell.f k (y1079 ++ l1)).bind fun bt1085 => (some (bt1085.1, bt1085.2.1, bt1085.2.2.1, bt1085.2.2.2.1, bt1085.2.2.2.2))) else (none))) else (none))) else ((some (([] : List Int) : List Int)).bind fun y1092 => (if y1092.length + l0_0.length < 140737488355328 then (some ((y1092 ++ l0_0), a0_1, a0_2, a0_3, a0_4)) else (none)))) else (some (([] : List Int), 0, false, 0, 0)))) = some (r1, r2, r3, r4, r5) := h
 clear h
 replace H := Option.bind_eq_some_iff.mp H
 obtain ⟨t1075, A30, H⟩ := H
 replace H : (if t1075 = true then (if a0_3 = 0 then ((some (([] : List Int) : List Int)).bind fun y1076 => (if y1076.length + l0_0.length < 140737488355328 then ((some (y1076 ++ l0_0 : List Int)).bind fun y1079 => (if y1079.length + l1.length < 140737488355328 then ((spec_l20Tell.f k (y1079 ++ l1)).bind fun bt1085 => (some (bt1085.1, bt1085.2.1, bt1085.2.2.1, bt1085.2.2.2.1, bt1085.2.2.2.2))) else (none))) else (none))) else ((some (([] : List Int) : List Int)).bind fun y1092 => (if y1092.length + l0_0.length < 140737488355328 then (some ((y1092 ++ l0_0), a0_1, a0_2, a0_3, a0_4)) else (none)))) else (some (([] : List Int), 0, false, 0, 0))) = some (r1, r2, r3, r4, r5) := H
 have A3 := Aside0.mk A30
 clear A30
 by_cases c4 : t1075 = true
 ·subst c4
  have H1 : (if a0_3 = 0 then ((some (([] : List Int) : List Int)).bind fun y1076 => (if y1076.length + l0_0.length < 140737488355328 then ((some (y1076 ++ l0_0 : List Int)).bind fun y1079 => (if y1079.length + l1.length < 140737488355328 then ((spec_l20Tell.f k (y1079 ++ l1)).bind fun bt1085 => (some (bt1085.1, bt1085.2.1, bt1085.2.2.1, bt1085.2.2.2.1, bt1085.2.2.2.2))) else (none))) else (none))) else ((some (([] : List Int) : List Int)).bind fun y1092 => (if y1092.length + l0_0.length < 140737488355328 then (some ((y1092 ++ l0_0), a0_1, a0_2, a0_3, a0_4)) else (none)))) = some (r1, r2, r3, r4, r5) := by rw [if_pos rfl] at H; exact H
  clear H
  have H := H1
  clear H1
  by_cases c5 : a0_3 = 0
  ·rw [if_pos c5] at H
   have c5b0 : (a0_3 == 0) = true := beq_iff_eq.mpr c5
   have c5b1 : (a0_3 != 0) = false := bne_eq_false_iff_eq.mpr c5
   clear c5
   obtain ⟨y1076, hy1076⟩ : ∃ y_ : List Int, y_ = (([] : List Int)) := ⟨_, rfl⟩
   replace H : (if y1076.length + l0_0.length < 140737488355328 then ((some (y1076 ++ l0_0 : List Int)).bind fun y1079 => (if y1079.length + l1.length < 140737488355328 then ((spec_l20Tell.f k (y1079 ++ l1)).bind fun bt1085 => (some (bt1085.1, bt1085.2.1, bt1085.2.2.1, bt1085.2.2.2.1, bt1085.2.2.2.2))) else (none))) else (none)) = some (r1, r2, r3, r4, r5) := by first | (rw [hy1076]; with_reducible exact H) | (have H2_ := (Option.bind_some _ _).symm.trans H; rw [hy1076]; with_reducible exact H2_) | (have H2_ := (Option.bind_some _ _).symm.trans H; with_reducible exact H2_) | with_reducible exact H | (rw [hy1076]; exact H) | exact H
   have Ny1076 := Aside0.mk hy1076
   clear hy1076
   by_cases c6 : y1076.length + l0_0.length < 140737488355328
   ·rw [if_pos c6] at H
    have LMc6 := Aside0.mk c6
    clear c6
    obtain ⟨y1079, hy1079⟩ : ∃ y_ : List Int, y_ = (y1076 ++ l0_0) := ⟨_, rfl⟩
    replace H : (if y1079.length + l1.length < 140737488355328 then ((spec_l20Tell.f k (y1079 ++ l1)).bind fun bt1085 => (some (bt1085.1, bt1085.2.1, bt1085.2.2.1, bt1085.2.2.2.1, bt1085.2.2.2.2))) else (none)) = some (r1, r2, r3, r4, r5) := by first | (rw [hy1079]; with_reducible exact H) | (have H2_ := (Option.bind_some _ _).symm.trans H; rw [hy1079]; with_reducible exact H2_) | (have H2_ := (Option.bind_some _ _).symm.trans H; with_reducible exact H2_) | with_reducible exact H | (rw [hy1079]; exact H) | exact H
    have Ny1079 := Aside0.mk hy1079
    clear hy1079
    by_cases c7 : y1079.length + l1.length < 140737488355328
    ·rw [if_pos c7] at H
     have LMc7 := Aside0.mk c7
     clear c7
     obtain ⟨y1082, hy1082⟩ : ∃ y_ : List Int, y_ = (y1079 ++ l1) := ⟨_, rfl⟩
     replace H : ((spec_l20Tell.f k y1082).bind fun bt1085 => (some (bt1085.1, bt1085.2.1, bt1085.2.2.1, bt1085.2.2.2.1, bt1085.2.2.2.2))) = some (r1, r2, r3, r4, r5) := by first | (rw [hy1082]; with_reducible exact H) | (have H2_ := (Option.bind_some _ _).symm.trans H; rw [hy1082]; with_reducible exact H2_) | (have H2_ := (Option.bind_some _ _).symm.trans H; with_reducible exact H2_) | with_reducible exact H | (rw [hy1082]; exact H) | exact H
     have Ny1082 := Aside0.mk hy1082
     clear hy1082
     replace H := Option.bind_eq_some_iff.mp H
     obtain ⟨⟨t1085, t1088, t1089, t1090, t1091⟩, A80, H⟩ := H
     replace H : (some (t1085, t1088, t1089, t1090, t1091)) = some (r1, r2, r3, r4, r5) := H
     have A8 := Aside0.mk A80
     clear A80
     simp only [Option.some.injEq, Prod.mk.injEq] at H
     obtain ⟨rfl, rfl, rfl, rfl, rfl⟩ := H
     go_enter Try.func69, Try.ntmps69
     go_wp2_with (first | ((with_reducible refine gate_dst (N := 2) rfl ?_); refine box_event ?hg (N := 2) ?hd (cs := #[.slice A0_0 l0_0.length c0_0, .int .i64 a0_1, .bool a0_2, .int .i64 a0_3, .int .i64 a0_4]) (t := 77) ?hr ?_; (case hd => rfl); (case hg => rfl); (case hr => first | (go_simp; done) | (go_simp; rfl)); intro gb1073 hg w9 hbox hb; have n0_ := Aside0.mk (below_step (by repeat (first | (with_reducible first | exact HB.out | apply below_alloc | apply pw_below_drewN | apply below_drew1) | exact HB.out)) hb); have n1_ := Aside0.mk (hbox); have n2_ := Aside0.mk ((by rw [hg]; exact (below_size (by repeat (first | (with_reducible first | exact HB.out | apply below_alloc | apply pw_below_drewN | apply below_drew1) | exact HB.out))) : w.heap.size ≤ gb1073)); have n3_ := Aside0.mk ((by rw [hg]; exact (below_size (by repeat (first | (with_reducible first | exact HB.out | apply below_alloc | apply pw_below_drewN | apply below_drew1) | exact HB.out))) : w.heap.size ≤ gb1073)); clear HB; have HB := n0_; have BK1073 := n1_; have GW1073 := n2_; have GE1073 := n3_; clear n0_ n1_ n2_ n3_; clear hb hbox hg) | ((with_reducible refine gate_dst (N := 4) rfl ?_); refine box_event ?hg (N := 4) ?hd (cs := #[.slice none 0 0, .int .i64 0, .bool false, .int .i64 0, .int .i64 0]) (t := 77) ?hr ?_; (case hd => rfl); (case hg => rfl); (case hr => first | (go_simp; done) | (go_simp; rfl)); intro gb1074 hg w10 hbox hb; have n0_ := Aside0.mk (blk_below (g := gb1073) (o := .cells #[.slice A0_0 l0_0.length c0_0, .int .i64 a0_1, .bool a0_2, .int .i64 a0_3, .int .i64 a0_4] 77 (0, 0)) (by (with_reducible repeat (first | refine blk_drewN ?_ _ | refine blk_drew ?_ | refine blk_alloc ?_ _)); exact BK1073.out) hb); have n1_ := Aside0.mk (below_step (by repeat (first | (with_reducible first | exact HB.out | apply below_alloc | apply pw_below_drewN | apply below_drew1 | refine below_set ?_ GE1073.out) | exact HB.out)) hb); have n2_ := Aside0.mk (hbox); have n3_ := Aside0.mk ((by rw [hg]; exact (below_size (by repeat (first | (with_reducible first | exact HB.out | apply below_alloc | apply pw_below_drewN | apply below_drew1 | refine below_set ?_ GE1073.out) | exact HB.out))) : w.heap.size ≤ gb1074)); have n4_ := Aside0.mk ((by rw [hg]; exact (below_size (by repeat (first | (with_reducible first | exact HB.out | apply below_alloc | apply pw_below_drewN | apply below_drew1 | refine below_set ?_ GE1073.out) | exact HB.out))) : w.heap.size ≤ gb1074)); have n5_ := Aside0.mk ((by rw [hg]; exact Nat.ne_of_lt (blk_lt (g := gb1073) (o := .cells #[.slice A0_0 l0_0.length c0_0, .int .i64 a0_1, .bool a0_2, .int .i64 a0_3, .int .i64 a0_4] 77 (0, 0)) (by (with_reducible repeat (first | refine blk_drewN ?_ _ | refine blk_drew ?_ | refine blk_alloc ?_ _)); exact BK1073.out)) : gb1073 ≠ gb1074)); have n6_ := Aside0.mk ((by rw [hg]; exact Nat.ne_of_gt (blk_lt (g := gb1073) (o := .cells #[.slice A0_0 l0_0.length c0_0, .int .i64 a0_1, .bool a0_2, .int .i64 a0_3, .int .i64 a0_4] 77 (0, 0)) (by (with_reducible repeat (first | refine blk_drewN ?_ _ | refine blk_drew ?_ | refine blk_alloc ?_ _)); exact BK1073.out)) : gb1074 ≠ gb1073)); clear BK1073; clear HB; have BK1073 := n0_; have HB := n1_; have BK1074 := n2_; have GW1074 := n3_; have GE1074 := n4_; have NB1073_1074 := n5_; have NB1074_1073 := n6_; clear n0_ n1_ n2_ n3_ n4_ n5_ n6_; clear hb hbox hg; have hnb11 := NB1073_1074.out; have hnc11 := NB1074_1073.out; have hcz12_0 : w10.cell? ⟨gb1073, 0, none⟩ = some (.slice A0_0 l0_0.length c0_0) := (blk_cell BK1073.out 0).trans rfl; have hcz12_1 : w10.cell? ⟨gb1073, 1, none⟩ = some (.int .i64 a0_1) := (blk_cell BK1073.out 1).trans rfl; have hcz12_2 : w10.cell? ⟨gb1073, 2, none⟩ = some (.bool a0_2) := (blk_cell BK1073.out 2).trans rfl; have hcz12_3 : w10.cell? ⟨gb1073, 3, none⟩ = some (.int .i64 a0_3) := (blk_cell BK1073.out 3).trans rfl; have hcz12_4 : w10.cell? ⟨gb1073, 4, none⟩ = some (.int .i64 a0_4) := (blk_cell BK1073.out 4).trans rfl; have hfz12_0 := blk_frozen BK1073.out 0; have hfz12_1 := blk_frozen BK1073.out 1; have hfz12_2 := blk_frozen BK1073.out 2; have hfz12_3 := blk_frozen BK1073.out 3; have hfz12_4 := blk_frozen BK1073.out 4) | ((with_reducible refine gate_callee (f := 65) rfl ?_); refine goesL_ (some 6) rfl rfl Try.func65 (by kernel_rfl) rfl #[.agg #[.slice A0_0 l0_0.length c0_0, .int .i64 a0_1, .bool a0_2, .int .i64 a0_3, .int .i64 a0_4]] rfl (by (try simp only [List.map_toArray, List.map_cons, List.map_nil]); first | done | rfl | (simp only [List.length_drop, List.length_take]; rfl)) ?_; (with_reducible refine (spec_FeedOk.calls k _ _ l0_0 a0_1 a0_2 a0_3 a0_4 true _ ?side1 ?side2 A3.out).mono ?_); (case side1 => repeat (first | exact (Kd.C_below HR0_0.out HB.out) | (with_reducible refine Kd.C_alloc ?_ _) | (with_reducible refine Kd.C_drewN ?_ _) | (with_reducible refine Kd.C_drew ?_))); (case side2 => exact HC0_0.out); rintro e w13 ⟨rfl, hb⟩; refine ⟨_, rfl, ?_⟩; have n0_ := Aside0.mk (blk_below (g := gb1073) (o := .cells #[.slice A0_0 l0_0.length c0_0, .int .i64 a0_1, .bool a0_2, .int .i64 a0_3, .int .i64 a0_4] 77 (0, 0)) (by (with_reducible repeat (first | refine blk_drewN ?_ _ | refine blk_drew ?_ | refine blk_alloc ?_ _)); exact BK1073.out) hb); have n1_ := Aside0.mk (blk_below (g := gb1074) (o := .cells #[.slice none 0 0, .int .i64 0, .bool false, .int .i64 0, .int .i64 0] 77 (0, 0)) (by (with_reducible repeat (first | refine blk_drewN ?_ _ | refine blk_drew ?_ | refine blk_alloc ?_ _)); exact BK1074.out) hb); have n2_ := Aside0.mk (below_step (by repeat (first | (with_reducible first | exact HB.out | apply below_alloc | apply pw_below_drewN | apply below_drew1 | refine below_set ?_ GE1073.out | refine below_set ?_ GE1074.out) | exact HB.out)) hb); clear BK1073; clear BK1074; clear HB; have BK1073 := n0_; have BK1074 := n1_; have HB := n2_; clear n0_ n1_ n2_; (try clear hb); (try clear hb2); (try clear hk); (try clear hi); have hcz14_0 : w13.cell? ⟨gb1073, 0, none⟩ = some (.slice A0_0 l0_0.length c0_0) := (blk_cell BK1073.out 0).trans rfl; have hcz14_1 : w13.cell? ⟨gb1073, 1, none⟩ = some (.int .i64 a0_1) := (blk_cell BK1073.out 1).trans rfl; have hcz14_2 : w13.cell? ⟨gb1073, 2, none⟩ = some (.bool a0_2) := (blk_cell BK1073.out 2).trans rfl; have hcz14_3 : w13.cell? ⟨gb1073, 3, none⟩ = some (.int .i64 a0_3) := (blk_cell BK1073.out 3).trans rfl; have hcz14_4 : w13.cell? ⟨gb1073, 4, none⟩ = some (.int .i64 a0_4) := (blk_cell BK1073.out 4).trans rfl; have hfz14_0 := blk_frozen BK1073.out 0; have hfz14_1 := blk_frozen BK1073.out 1; have hfz14_2 := blk_frozen BK1073.out 2; have hfz14_3 := blk_frozen BK1073.out 3; have hfz14_4 := blk_frozen BK1073.out 4) | ((with_reducible refine gate_dst (N := 19) rfl ?_); refine Kd.R_lit (Kd.int .u8) _ 5 ?hg (N := 19) ?hd (xs := ([] : List Int)) (inner := []) (ok := fun _ => True) (okp := fun _ => True) ?hr ?hp (fun _ hk => hk) trivial (Below.refl _ _) (Nat.le_refl _) (by simp) ?_; (case hd => rfl); (case hg => rfl); (case hr => first | (go_simp; done) | (go_simp; rfl)); (case hp => exact (Reps.none _ _)); intro v1077 w15 ho16 hb hg_ hnew_; clear hg_ hnew_; (first | rw [← Ny1076.out] at ho16 | (simp only [Int.reduceToNat] at ho16; rw [← Ny1076.out] at ho16)); have n0_ := Aside0.mk (Kd.R_lower ho16 (below_size (by repeat (first | (with_reducible first | exact HB.out | apply below_alloc | apply pw_below_drewN | apply below_drew1 | refine below_set ?_ GE1073.out | refine below_set ?_ GE1074.out) | exact HB.out)))); have n1_ := Aside0.mk (blk_below (g := gb1073) (o := .cells #[.slice A0_0 l0_0.length c0_0, .int .i64 a0_1, .bool a0_2, .int .i64 a0_3, .int .i64 a0_4] 77 (0, 0)) (by (with_reducible repeat (first | refine blk_drewN ?_ _ | refine blk_drew ?_ | refine blk_alloc ?_ _)); exact BK1073.out) hb); have n2_ := Aside0.mk (blk_below (g := gb1074) (o := .cells #[.slice none 0 0, .int .i64 0, .bool false, .int .i64 0, .int .i64 0] 77 (0, 0)) (by (with_reducible repeat (first | refine blk_drewN ?_ _ | refine blk_drew ?_ | refine blk_alloc ?_ _)); exact BK1074.out) hb); have n3_ := Aside0.mk (below_step (by repeat (first | (with_reducible first | exact HB.out | apply below_alloc | apply pw_below_drewN | apply below_drew1 | refine below_set ?_ GE1073.out | refine below_set ?_ GE1074.out) | exact HB.out)) hb); clear BK1073; clear BK1074; clear HB; have HO1078 := n0_; have BK1073 := n1_; have BK1074 := n2_; have HB := n3_; clear n0_ n1_ n2_ n3_; clear hb ho16; have hcz17_0 : w15.cell? ⟨gb1073, 0, none⟩ = some (.slice A0_0 l0_0.length c0_0) := (blk_cell BK1073.out 0).trans rfl; have hcz17_1 : w15.cell? ⟨gb1073, 1, none⟩ = some (.int .i64 a0_1) := (blk_cell BK1073.out 1).trans rfl; have hcz17_2 : w15.cell? ⟨gb1073, 2, none⟩ = some (.bool a0_2) := (blk_cell BK1073.out 2).trans rfl; have hcz17_3 : w15.cell? ⟨gb1073, 3, none⟩ = some (.int .i64 a0_3) := (blk_cell BK1073.out 3).trans rfl; have hcz17_4 : w15.cell? ⟨gb1073, 4, none⟩ = some (.int .i64 a0_4) := (blk_cell BK1073.out 4).trans rfl; have hfz17_0 := blk_frozen BK1073.out 0; have hfz17_1 := blk_frozen BK1073.out 1; have hfz17_2 := blk_frozen BK1073.out 2; have hfz17_3 := blk_frozen BK1073.out 3; have hfz17_4 := blk_frozen BK1073.out 4) | ((with_reducible refine gate_builtin (b := .append) (xs := #[.tmp 19, .tmp 21]) rfl ?_); at_builtin; refine Kd.R_append_rows (Kd.int .u8) (w0 := w) w.heap.size rfl (.tmp 19) (.tmp 21) 23 5 (.int .u8 0) 1 rfl Try.underlying23 info5 rfl (by decide) (by omega) v1077 y1076 l0_0 _ _ _ (fun _ => True) (fun _ => False) rfl rfl ?aO ?aR (fun _ _ h => h) (fun _ h => h.elim) ?aF ?aB ?aS ?aL ?_; (case aR => repeat (first | exact (Kd.C_below HR0_0.out HB.out) | (with_reducible refine Kd.C_alloc ?_ _) | (with_reducible refine Kd.C_drewN ?_ _) | (with_reducible refine Kd.C_drew ?_))); (case aB => exact (by repeat (first | (with_reducible first | exact HB.out | apply below_alloc | apply pw_below_drewN | apply below_drew1 | refine below_set ?_ GE1073.out | refine below_set ?_ GE1074.out) | exact HB.out))); (case aF => exact (fun _ _ => trivial)); (case aO => exact (by (with_reducible repeat (first | apply Kd.R_alloc | apply Kd.R_drewN | apply Kd.R_drew)); exact HO1078.out)); (case aS => exact (below_size (by repeat (first | (with_reducible first | exact HB.out | apply below_alloc | apply pw_below_drewN | apply below_drew1 | refine below_set ?_ GE1073.out | refine below_set ?_ GE1074.out) | exact HB.out)))); (case aL => have := LMc6.out; omega); intro v1080 w18 ho hb hg hat; rw [← Ny1079.out] at ho; have n0_ := Aside0.mk (blk_grown (g := gb1073) (o := .cells #[.slice A0_0 l0_0.length c0_0, .int .i64 a0_1, .bool a0_2, .int .i64 a0_3, .int .i64 a0_4] 77 (0, 0)) (by (with_reducible repeat (first | refine blk_drewN ?_ _ | refine blk_drew ?_ | refine blk_alloc ?_ _)); exact BK1073.out) hg (Kd.R_ne HO1078.out BK1073.out (by decide))); have n1_ := Aside0.mk (blk_grown (g := gb1074) (o := .cells #[.slice none 0 0, .int .i64 0, .bool false, .int .i64 0, .int .i64 0] 77 (0, 0)) (by (with_reducible repeat (first | refine blk_drewN ?_ _ | refine blk_drew ?_ | refine blk_alloc ?_ _)); exact BK1074.out) hg (Kd.R_ne HO1078.out BK1074.out (by decide))); have n2_ := Aside0.mk (hb); have n3_ := Aside0.mk (ho); clear BK1073; clear BK1074; clear HB; clear HO1078; have BK1073 := n0_; have BK1074 := n1_; have HB := n2_; have HO1081 := n3_; clear n0_ n1_ n2_ n3_; clear ho hb hg hat) | ((with_reducible refine gate_builtin (b := .append) (xs := #[.tmp 22, .tmp 23]) rfl ?_); at_builtin; refine Kd.R_append_rows (Kd.int .u8) (w0 := w) w.heap.size rfl (.tmp 22) (.tmp 23) 23 5 (.int .u8 0) 1 rfl Try.underlying23 info5 rfl (by decide) (by omega) v1080 y1079 l1 _ _ _ (fun _ => True) (fun _ => False) rfl rfl ?aO ?aR (fun _ _ h => h) (fun _ h => h.elim) ?aF ?aB ?aS ?aL ?_; (case aR => repeat (first | exact (Kd.C_below HR1.out HB.out) | (with_reducible refine Kd.C_alloc ?_ _) | (with_reducible refine Kd.C_drewN ?_ _) | (with_reducible refine Kd.C_drew ?_))); (case aB => exact (by repeat (first | (with_reducible first | exact HB.out | apply below_alloc | apply pw_below_drewN | apply below_drew1 | refine below_set ?_ GE1073.out | refine below_set ?_ GE1074.out) | exact HB.out))); (case aF => exact (fun _ _ => trivial)); (case aO => exact (by (with_reducible repeat (first | apply Kd.R_alloc | apply Kd.R_drewN | apply Kd.R_drew)); exact HO1081.out)); (case aS => exact (below_size (by repeat (first | (with_reducible first | exact HB.out | apply below_alloc | apply pw_below_drewN | apply below_drew1 | refine below_set ?_ GE1073.out | refine below_set ?_ GE1074.out) | exact HB.out)))); (case aL => have := LMc7.out; omega); intro v1083 w19 ho hb hg hat; rw [← Ny1082.out] at ho; have n0_ := Aside0.mk (blk_grown (g := gb1073) (o := .cells #[.slice A0_0 l0_0.length c0_0, .int .i64 a0_1, .bool a0_2, .int .i64 a0_3, .int .i64 a0_4] 77 (0, 0)) (by (with_reducible repeat (first | refine blk_drewN ?_ _ | refine blk_drew ?_ | refine blk_alloc ?_ _)); exact BK1073.out) hg (Kd.R_ne HO1081.out BK1073.out (by decide))); have n1_ := Aside0.mk (blk_grown (g := gb1074) (o := .cells #[.slice none 0 0, .int .i64 0, .bool false, .int .i64 0, .int .i64 0] 77 (0, 0)) (by (with_reducible repeat (first | refine blk_drewN ?_ _ | refine blk_drew ?_ | refine blk_alloc ?_ _)); exact BK1074.out) hg (Kd.R_ne HO1081.out BK1074.out (by decide))); have n2_ := Aside0.mk (hb); have n3_ := Aside0.mk (ho); clear BK1073; clear BK1074; clear HB; clear HO1081; have BK1073 := n0_; have BK1074 := n1_; have HB := n2_; have HO1084 := n3_; clear n0_ n1_ n2_ n3_; clear ho hb hg hat; obtain ⟨Ao20, co20, eo20⟩ := Kd.R_slice HO1084.out; subst eo20) | ((with_reducible refine gate_callee (f := 138) rfl ?_); refine goesL_ (some 25) rfl rfl Try.func138 (by kernel_rfl) rfl #[.slice Ao20 y1082.length co20] rfl (by (try simp only [List.map_toArray, List.map_cons, List.map_nil]); first | done | rfl | (simp only [List.length_drop, List.length_take]; rfl)) ?_; (with_reducible refine (spec_l20Tell.calls k _ _ y1082 t1085 t1088 t1089 t1090 t1091 _ ?side1 ?side2 A8.out).mono ?_); (case side1 => repeat (first | exact (Kd.R_reads' HO1084.out).2.2 | (with_reducible refine Kd.C_alloc ?_ _) | (with_reducible refine Kd.C_drewN ?_ _) | (with_reducible refine Kd.C_drew ?_))); (case side2 => exact (Kd.R_reads' HO1084.out).2.1); rintro e w21 ⟨v1086, rfl, ho0, hb⟩; refine ⟨_, rfl, ?_⟩; have n0_ := Aside0.mk (Kd.R_elder' (by (with_reducible repeat (first | apply Kd.R_alloc | apply Kd.R_drewN | apply Kd.R_drew)); exact HO1084.out) (Kd.R_base ho0) hb); have n1_ := Aside0.mk (Kd.R_lower (Kd.R_new' ho0 (Kd.R_lt (by (with_reducible repeat (first | apply Kd.R_alloc | apply Kd.R_drewN | apply Kd.R_drew)); exact HO1084.out))) (below_size (by repeat (first | (with_reducible first | exact HB.out | apply below_alloc | apply pw_below_drewN | apply below_drew1 | refine below_set ?_ GE1073.out | refine below_set ?_ GE1074.out) | exact HB.out)))); have n2_ := Aside0.mk (blk_below (g := gb1073) (o := .cells #[.slice A0_0 l0_0.length c0_0, .int .i64 a0_1, .bool a0_2, .int .i64 a0_3, .int .i64 a0_4] 77 (0, 0)) (by (with_reducible repeat (first | refine blk_drewN ?_ _ | refine blk_drew ?_ | refine blk_alloc ?_ _)); exact BK1073.out) hb); have n3_ := Aside0.mk (blk_below (g := gb1074) (o := .cells #[.slice none 0 0, .int .i64 0, .bool false, .int .i64 0, .int .i64 0] 77 (0, 0)) (by (with_reducible repeat (first | refine blk_drewN ?_ _ | refine blk_drew ?_ | refine blk_alloc ?_ _)); exact BK1074.out) hb); have n4_ := Aside0.mk (below_step (by repeat (first | (with_reducible first | exact HB.out | apply below_alloc | apply pw_below_drewN | apply below_drew1 | refine below_set ?_ GE1073.out | refine below_set ?_ GE1074.out) | exact HB.out)) hb); clear HO1084; clear BK1073; clear BK1074; clear HB; have HO1084 := n0_; have HO1087 := n1_; have BK1073 := n2_; have BK1074 := n3_; have HB := n4_; clear n0_ n1_ n2_ n3_ n4_; (try clear hb); (try clear hb2); (try clear hk); (try clear hi); (try clear ho0); obtain ⟨Ao22, co22, eo22⟩ := Kd.R_slice HO1087.out; subst eo22; have hcz23_0 : w21.cell? ⟨gb1074, 0, none⟩ = some (.slice none 0 0) := (blk_cell BK1074.out 0).trans rfl; have hcz23_1 : w21.cell? ⟨gb1074, 1, none⟩ = some (.int .i64 0) := (blk_cell BK1074.out 1).trans rfl; have hcz23_2 : w21.cell? ⟨gb1074, 2, none⟩ = some (.bool false) := (blk_cell BK1074.out 2).trans rfl; have hcz23_3 : w21.cell? ⟨gb1074, 3, none⟩ = some (.int .i64 0) := (blk_cell BK1074.out 3).trans rfl; have hcz23_4 : w21.cell? ⟨gb1074, 4, none⟩ = some (.int .i64 0) := (blk_cell BK1074.out 4).trans rfl; have hfz23_0 := blk_frozen BK1074.out 0; have hfz23_1 := blk_frozen BK1074.out 1; have hfz23_2 := blk_frozen BK1074.out 2; have hfz23_3 := blk_frozen BK1074.out 3; have hfz23_4 := blk_frozen BK1074.out 4))
     refine bodyPost_ret (results_cell_row rfl _ _ gb1074 77 #[.slice Ao22 t1085.length co22, .int .i64 t1088, .bool t1089, .int .i64 t1090, .int .i64 t1091] (0, 0) _ rfl (by (with_reducible repeat (first | refine blk_drewN ?_ _ | refine blk_drew ?_ | refine blk_alloc ?_ _)); refine blk_put (cs := #[.slice Ao22 t1085.length co22, .int .i64 t1088, .bool t1089, .int .i64 t1090, .int .i64 0]) ?_ 4 _ rfl; (with_reducible repeat (first | refine blk_drewN ?_ _ | refine blk_drew ?_ | refine blk_alloc ?_ _)); refine blk_put (cs := #[.slice Ao22 t1085.length co22, .int .i64 t1088, .bool t1089, .int .i64 0, .int .i64 0]) ?_ 3 _ rfl; (with_reducible repeat (first | refine blk_drewN ?_ _ | refine blk_drew ?_ | refine blk_alloc ?_ _)); refine blk_put (cs := #[.slice Ao22 t1085.length co22, .int .i64 t1088, .bool false, .int .i64 0, .int .i64 0]) ?_ 2 _ rfl; (with_reducible repeat (first | refine blk_drewN ?_ _ | refine blk_drew ?_ | refine blk_alloc ?_ _)); refine blk_put (cs := #[.slice Ao22 t1085.length co22, .int .i64 0, .bool false, .int .i64 0, .int .i64 0]) ?_ 1 _ rfl; (with_reducible repeat (first | refine blk_drewN ?_ _ | refine blk_drew ?_ | refine blk_alloc ?_ _)); refine blk_put (cs := #[.slice none 0 0, .int .i64 0, .bool false, .int .i64 0, .int .i64 0]) ?_ 0 _ rfl; (with_reducible repeat (first | refine blk_drewN ?_ _ | refine blk_drew ?_ | refine blk_alloc ?_ _)); exact BK1074.out) Try.underlying77 rfl (by kernel_rfl)) rfl ?_
     exact ⟨_, by first | rfl | (simp [errW_none, errW_some] <;> rfl) | (simp [*, errW_none, errW_some] <;> rfl), by (with_reducible repeat (first | apply Kd.R_alloc | apply Kd.R_drewN | apply Kd.R_drew)); exact Kd.R_mono (Kd.R_far (p := ⟨gb1074, 4, none⟩) (Kd.R_far (p := ⟨gb1074, 3, none⟩) (Kd.R_far (p := ⟨gb1074, 2, none⟩) (Kd.R_far (p := ⟨gb1074, 1, none⟩) (Kd.R_far (p := ⟨gb1074, 0, none⟩) (Kd.R_types HO1087.out BK1074.out (by decide)) (fun _ hk => hk.2) (.slice Ao22 t1085.length co22)) (fun _ hk => hk.2) (.int .i64 t1088)) (fun _ hk => hk.2) (.bool t1089)) (fun _ hk => hk.2) (.int .i64 t1090)) (fun _ hk => hk.2) (.int .i64 t1091)) (fun _ hk => trivial), by repeat (first | (with_reducible first | exact HB.out | apply below_alloc | apply pw_below_drewN | apply below_drew1 | refine below_set ?_ GE1073.out | refine below_set ?_ GE1074.out) | exact HB.out)⟩
    ·rw [if_neg c7] at H
     exact absurd H (by simp)
   ·rw [if_neg c6] at H
    exact absurd H (by simp)
  ·rw [if_neg c5] at H
   have c5b0 : (a0_3 == 0) = false := beq_eq_false_iff_ne.mpr c5
   have c5b1 : (a0_3 != 0) = true := bne_iff_ne.mpr c5
   obtain ⟨y1092, hy1092⟩ : ∃ y_ : List Int, y_ = (([] : List Int)) := ⟨_, rfl⟩
   replace H : (if y1092.length + l0_0.length < 140737488355328 then (some ((y1092 ++ l0_0), a0_1, a0_2, a0_3, a0_4)) else (none)) = some (r1, r2, r3, r4, r5) := by first | (rw [hy1092]; with_reducible exact H) | (have H2_ := (Option.bind_some _ _).symm.trans H; rw [hy1092]; with_reducible exact H2_) | (have H2_ := (Option.bind_some _ _).symm.trans H; with_reducible exact H2_) | with_reducible exact H | (rw [hy1092]; exact H) | exact H
   have Ny1092 := Aside0.mk hy1092
   clear hy1092
   by_cases c24 : y1092.length + l0_0.length < 140737488355328
   ·rw [if_pos c24] at H
    have LMc24 := Aside0.mk c24
    clear c24
    obtain ⟨y1095, hy1095⟩ : ∃ y_ : List Int, y_ = (y1092 ++ l0_0) := ⟨_, rfl⟩
    replace H : (some (y1095, a0_1, a0_2, a0_3, a0_4)) = some (r1, r2, r3, r4, r5) := by first | (rw [hy1095]; with_reducible exact H) | (have H2_ := (Option.bind_some _ _).symm.trans H; rw [hy1095]; with_reducible exact H2_) | (have H2_ := (Option.bind_some _ _).symm.trans H; with_reducible exact H2_) | with_reducible exact H | (rw [hy1095]; exact H) | exact H
    have Ny1095 := Aside0.mk hy1095
    clear hy1095
    simp only [Option.some.injEq, Prod.mk.injEq] at H
    obtain ⟨rfl, rfl, rfl, rfl, rfl⟩ := H
    go_enter Try.func69, Try.ntmps69
    go_wp2_with (first | ((with_reducible refine gate_dst (N := 2) rfl ?_); refine box_event ?hg (N := 2) ?hd (cs := #[.slice A0_0 l0_0.length c0_0, .int .i64 a0_1, .bool a0_2, .int .i64 a0_3, .int .i64 a0_4]) (t := 77) ?hr ?_; (case hd => rfl); (case hg => rfl); (case hr => first | (go_simp; done) | (go_simp; rfl)); intro gb1073 hg w25 hbox hb; have n0_ := Aside0.mk (below_step (by repeat (first | (with_reducible first | exact HB.out | apply below_alloc | apply pw_below_drewN | apply below_drew1) | exact HB.out)) hb); have n1_ := Aside0.mk (hbox); have n2_ := Aside0.mk ((by rw [hg]; exact (below_size (by repeat (first | (with_reducible first | exact HB.out | apply below_alloc | apply pw_below_drewN | apply below_drew1) | exact HB.out))) : w.heap.size ≤ gb1073)); have n3_ := Aside0.mk ((by rw [hg]; exact (below_size (by repeat (first | (with_reducible first | exact HB.out | apply below_alloc | apply pw_below_drewN | apply below_drew1) | exact HB.out))) : w.heap.size ≤ gb1073)); clear HB; have HB := n0_; have BK1073 := n1_; have GW1073 := n2_; have GE1073 := n3_; clear n0_ n1_ n2_ n3_; clear hb hbox hg) | ((with_reducible refine gate_dst (N := 4) rfl ?_); refine box_event ?hg (N := 4) ?hd (cs := #[.slice none 0 0, .int .i64 0, .bool false, .int .i64 0, .int .i64 0]) (t := 77) ?hr ?_; (case hd => rfl); (case hg => rfl); (case hr => first | (go_simp; done) | (go_simp; rfl)); intro gb1074 hg w26 hbox hb; have n0_ := Aside0.mk (blk_below (g := gb1073) (o := .cells #[.slice A0_0 l0_0.length c0_0, .int .i64 a0_1, .bool a0_2, .int .i64 a0_3, .int .i64 a0_4] 77 (0, 0)) (by (with_reducible repeat (first | refine blk_drewN ?_ _ | refine blk_drew ?_ | refine blk_alloc ?_ _)); exact BK1073.out) hb); have n1_ := Aside0.mk (below_step (by repeat (first | (with_reducible first | exact HB.out | apply below_alloc | apply pw_below_drewN | apply below_drew1 | refine below_set ?_ GE1073.out) | exact HB.out)) hb); have n2_ := Aside0.mk (hbox); have n3_ := Aside0.mk ((by rw [hg]; exact (below_size (by repeat (first | (with_reducible first | exact HB.out | apply below_alloc | apply pw_below_drewN | apply below_drew1 | refine below_set ?_ GE1073.out) | exact HB.out))) : w.heap.size ≤ gb1074)); have n4_ := Aside0.mk ((by rw [hg]; exact (below_size (by repeat (first | (with_reducible first | exact HB.out | apply below_alloc | apply pw_below_drewN | apply below_drew1 | refine below_set ?_ GE1073.out) | exact HB.out))) : w.heap.size ≤ gb1074)); have n5_ := Aside0.mk ((by rw [hg]; exact Nat.ne_of_lt (blk_lt (g := gb1073) (o := .cells #[.slice A0_0 l0_0.length c0_0, .int .i64 a0_1, .bool a0_2, .int .i64 a0_3, .int .i64 a0_4] 77 (0, 0)) (by (with_reducible repeat (first | refine blk_drewN ?_ _ | refine blk_drew ?_ | refine blk_alloc ?_ _)); exact BK1073.out)) : gb1073 ≠ gb1074)); have n6_ := Aside0.mk ((by rw [hg]; exact Nat.ne_of_gt (blk_lt (g := gb1073) (o := .cells #[.slice A0_0 l0_0.length c0_0, .int .i64 a0_1, .bool a0_2, .int .i64 a0_3, .int .i64 a0_4] 77 (0, 0)) (by (with_reducible repeat (first | refine blk_drewN ?_ _ | refine blk_drew ?_ | refine blk_alloc ?_ _)); exact BK1073.out)) : gb1074 ≠ gb1073)); clear BK1073; clear HB; have BK1073 := n0_; have HB := n1_; have BK1074 := n2_; have GW1074 := n3_; have GE1074 := n4_; have NB1073_1074 := n5_; have NB1074_1073 := n6_; clear n0_ n1_ n2_ n3_ n4_ n5_ n6_; clear hb hbox hg; have hnb27 := NB1073_1074.out; have hnc27 := NB1074_1073.out; have hcz28_0 : w26.cell? ⟨gb1073, 0, none⟩ = some (.slice A0_0 l0_0.length c0_0) := (blk_cell BK1073.out 0).trans rfl; have hcz28_1 : w26.cell? ⟨gb1073, 1, none⟩ = some (.int .i64 a0_1) := (blk_cell BK1073.out 1).trans rfl; have hcz28_2 : w26.cell? ⟨gb1073, 2, none⟩ = some (.bool a0_2) := (blk_cell BK1073.out 2).trans rfl; have hcz28_3 : w26.cell? ⟨gb1073, 3, none⟩ = some (.int .i64 a0_3) := (blk_cell BK1073.out 3).trans rfl; have hcz28_4 : w26.cell? ⟨gb1073, 4, none⟩ = some (.int .i64 a0_4) := (blk_cell BK1073.out 4).trans rfl; have hfz28_0 := blk_frozen BK1073.out 0; have hfz28_1 := blk_frozen BK1073.out 1; have hfz28_2 := blk_frozen BK1073.out 2; have hfz28_3 := blk_frozen BK1073.out 3; have hfz28_4 := blk_frozen BK1073.out 4) | ((with_reducible refine gate_callee (f := 65) rfl ?_); refine goesL_ (some 6) rfl rfl Try.func65 (by kernel_rfl) rfl #[.agg #[.slice A0_0 l0_0.length c0_0, .int .i64 a0_1, .bool a0_2, .int .i64 a0_3, .int .i64 a0_4]] rfl (by (try simp only [List.map_toArray, List.map_cons, List.map_nil]); first | done | rfl | (simp only [List.length_drop, List.length_take]; rfl)) ?_; (with_reducible refine (spec_FeedOk.calls k _ _ l0_0 a0_1 a0_2 a0_3 a0_4 true _ ?side1 ?side2 A3.out).mono ?_); (case side1 => repeat (first | exact (Kd.C_below HR0_0.out HB.out) | (with_reducible refine Kd.C_alloc ?_ _) | (with_reducible refine Kd.C_drewN ?_ _) | (with_reducible refine Kd.C_drew ?_))); (case side2 => exact HC0_0.out); rintro e w29 ⟨rfl, hb⟩; refine ⟨_, rfl, ?_⟩; have n0_ := Aside0.mk (blk_below (g := gb1073) (o := .cells #[.slice A0_0 l0_0.length c0_0, .int .i64 a0_1, .bool a0_2, .int .i64 a0_3, .int .i64 a0_4] 77 (0, 0)) (by (with_reducible repeat (first | refine blk_drewN ?_ _ | refine blk_drew ?_ | refine blk_alloc ?_ _)); exact BK1073.out) hb); have n1_ := Aside0.mk (blk_below (g := gb1074) (o := .cells #[.slice none 0 0, .int .i64 0, .bool false, .int .i64 0, .int .i64 0] 77 (0, 0)) (by (with_reducible repeat (first | refine blk_drewN ?_ _ | refine blk_drew ?_ | refine blk_alloc ?_ _)); exact BK1074.out) hb); have n2_ := Aside0.mk (below_step (by repeat (first | (with_reducible first | exact HB.out | apply below_alloc | apply pw_below_drewN | apply below_drew1 | refine below_set ?_ GE1073.out | refine below_set ?_ GE1074.out) | exact HB.out)) hb); clear BK1073; clear BK1074; clear HB; have BK1073 := n0_; have BK1074 := n1_; have HB := n2_; clear n0_ n1_ n2_; (try clear hb); (try clear hb2); (try clear hk); (try clear hi); have hcz30_0 : w29.cell? ⟨gb1073, 0, none⟩ = some (.slice A0_0 l0_0.length c0_0) := (blk_cell BK1073.out 0).trans rfl; have hcz30_1 : w29.cell? ⟨gb1073, 1, none⟩ = some (.int .i64 a0_1) := (blk_cell BK1073.out 1).trans rfl; have hcz30_2 : w29.cell? ⟨gb1073, 2, none⟩ = some (.bool a0_2) := (blk_cell BK1073.out 2).trans rfl; have hcz30_3 : w29.cell? ⟨gb1073, 3, none⟩ = some (.int .i64 a0_3) := (blk_cell BK1073.out 3).trans rfl; have hcz30_4 : w29.cell? ⟨gb1073, 4, none⟩ = some (.int .i64 a0_4) := (blk_cell BK1073.out 4).trans rfl; have hfz30_0 := blk_frozen BK1073.out 0; have hfz30_1 := blk_frozen BK1073.out 1; have hfz30_2 := blk_frozen BK1073.out 2; have hfz30_3 := blk_frozen BK1073.out 3; have hfz30_4 := blk_frozen BK1073.out 4) | ((with_reducible refine gate_dst (N := 13) rfl ?_); refine Kd.R_lit (Kd.int .u8) _ 5 ?hg (N := 13) ?hd (xs := ([] : List Int)) (inner := []) (ok := fun _ => True) (okp := fun _ => True) ?hr ?hp (fun _ hk => hk) trivial (Below.refl _ _) (Nat.le_refl _) (by simp) ?_; (case hd => rfl); (case hg => rfl); (case hr => first | (go_simp; done) | (go_simp; rfl)); (case hp => exact (Reps.none _ _)); intro v1093 w31 ho32 hb hg_ hnew_; clear hg_ hnew_; (first | rw [← Ny1092.out] at ho32 | (simp only [Int.reduceToNat] at ho32; rw [← Ny1092.out] at ho32)); have n0_ := Aside0.mk (Kd.R_lower ho32 (below_size (by repeat (first | (with_reducible first | exact HB.out | apply below_alloc | apply pw_below_drewN | apply below_drew1 | refine below_set ?_ GE1073.out | refine below_set ?_ GE1074.out) | exact HB.out)))); have n1_ := Aside0.mk (blk_below (g := gb1073) (o := .cells #[.slice A0_0 l0_0.length c0_0, .int .i64 a0_1, .bool a0_2, .int .i64 a0_3, .int .i64 a0_4] 77 (0, 0)) (by (with_reducible repeat (first | refine blk_drewN ?_ _ | refine blk_drew ?_ | refine blk_alloc ?_ _)); exact BK1073.out) hb); have n2_ := Aside0.mk (blk_below (g := gb1074) (o := .cells #[.slice none 0 0, .int .i64 0, .bool false, .int .i64 0, .int .i64 0] 77 (0, 0)) (by (with_reducible repeat (first | refine blk_drewN ?_ _ | refine blk_drew ?_ | refine blk_alloc ?_ _)); exact BK1074.out) hb); have n3_ := Aside0.mk (below_step (by repeat (first | (with_reducible first | exact HB.out | apply below_alloc | apply pw_below_drewN | apply below_drew1 | refine below_set ?_ GE1073.out | refine below_set ?_ GE1074.out) | exact HB.out)) hb); clear BK1073; clear BK1074; clear HB; have HO1094 := n0_; have BK1073 := n1_; have BK1074 := n2_; have HB := n3_; clear n0_ n1_ n2_ n3_; clear hb ho32; have hcz33_0 : w31.cell? ⟨gb1073, 0, none⟩ = some (.slice A0_0 l0_0.length c0_0) := (blk_cell BK1073.out 0).trans rfl; have hcz33_1 : w31.cell? ⟨gb1073, 1, none⟩ = some (.int .i64 a0_1) := (blk_cell BK1073.out 1).trans rfl; have hcz33_2 : w31.cell? ⟨gb1073, 2, none⟩ = some (.bool a0_2) := (blk_cell BK1073.out 2).trans rfl; have hcz33_3 : w31.cell? ⟨gb1073, 3, none⟩ = some (.int .i64 a0_3) := (blk_cell BK1073.out 3).trans rfl; have hcz33_4 : w31.cell? ⟨gb1073, 4, none⟩ = some (.int .i64 a0_4) := (blk_cell BK1073.out 4).trans rfl; have hfz33_0 := blk_frozen BK1073.out 0; have hfz33_1 := blk_frozen BK1073.out 1; have hfz33_2 := blk_frozen BK1073.out 2; have hfz33_3 := blk_frozen BK1073.out 3; have hfz33_4 := blk_frozen BK1073.out 4) | ((with_reducible refine gate_builtin (b := .append) (xs := #[.tmp 13, .tmp 15]) rfl ?_); at_builtin; refine Kd.R_append_rows (Kd.int .u8) (w0 := w) w.heap.size rfl (.tmp 13) (.tmp 15) 23 5 (.int .u8 0) 1 rfl Try.underlying23 info5 rfl (by decide) (by omega) v1093 y1092 l0_0 _ _ _ (fun _ => True) (fun _ => False) rfl rfl ?aO ?aR (fun _ _ h => h) (fun _ h => h.elim) ?aF ?aB ?aS ?aL ?_; (case aR => repeat (first | exact (Kd.C_below HR0_0.out HB.out) | (with_reducible refine Kd.C_alloc ?_ _) | (with_reducible refine Kd.C_drewN ?_ _) | (with_reducible refine Kd.C_drew ?_))); (case aB => exact (by repeat (first | (with_reducible first | exact HB.out | apply below_alloc | apply pw_below_drewN | apply below_drew1 | refine below_set ?_ GE1073.out | refine below_set ?_ GE1074.out) | exact HB.out))); (case aF => exact (fun _ _ => trivial)); (case aO => exact (by (with_reducible repeat (first | apply Kd.R_alloc | apply Kd.R_drewN | apply Kd.R_drew)); exact HO1094.out)); (case aS => exact (below_size (by repeat (first | (with_reducible first | exact HB.out | apply below_alloc | apply pw_below_drewN | apply below_drew1 | refine below_set ?_ GE1073.out | refine below_set ?_ GE1074.out) | exact HB.out)))); (case aL => have := LMc24.out; omega); intro v1096 w34 ho hb hg hat; rw [← Ny1095.out] at ho; have n0_ := Aside0.mk (blk_grown (g := gb1073) (o := .cells #[.slice A0_0 l0_0.length c0_0, .int .i64 a0_1, .bool a0_2, .int .i64 a0_3, .int .i64 a0_4] 77 (0, 0)) (by (with_reducible repeat (first | refine blk_drewN ?_ _ | refine blk_drew ?_ | refine blk_alloc ?_ _)); exact BK1073.out) hg (Kd.R_ne HO1094.out BK1073.out (by decide))); have n1_ := Aside0.mk (blk_grown (g := gb1074) (o := .cells #[.slice none 0 0, .int .i64 0, .bool false, .int .i64 0, .int .i64 0] 77 (0, 0)) (by (with_reducible repeat (first | refine blk_drewN ?_ _ | refine blk_drew ?_ | refine blk_alloc ?_ _)); exact BK1074.out) hg (Kd.R_ne HO1094.out BK1074.out (by decide))); have n2_ := Aside0.mk (hb); have n3_ := Aside0.mk (ho); clear BK1073; clear BK1074; clear HB; clear HO1094; have BK1073 := n0_; have BK1074 := n1_; have HB := n2_; have HO1097 := n3_; clear n0_ n1_ n2_ n3_; clear ho hb hg hat; obtain ⟨Ao35, co35, eo35⟩ := Kd.R_slice HO1097.out; subst eo35; have hcz36_0 : w34.cell? ⟨gb1073, 0, none⟩ = some (.slice A0_0 l0_0.length c0_0) := (blk_cell BK1073.out 0).trans rfl; have hcz36_1 : w34.cell? ⟨gb1073, 1, none⟩ = some (.int .i64 a0_1) := (blk_cell BK1073.out 1).trans rfl; have hcz36_2 : w34.cell? ⟨gb1073, 2, none⟩ = some (.bool a0_2) := (blk_cell BK1073.out 2).trans rfl; have hcz36_3 : w34.cell? ⟨gb1073, 3, none⟩ = some (.int .i64 a0_3) := (blk_cell BK1073.out 3).trans rfl; have hcz36_4 : w34.cell? ⟨gb1073, 4, none⟩ = some (.int .i64 a0_4) := (blk_cell BK1073.out 4).trans rfl; have hfz36_0 := blk_frozen BK1073.out 0; have hfz36_1 := blk_frozen BK1073.out 1; have hfz36_2 := blk_frozen BK1073.out 2; have hfz36_3 := blk_frozen BK1073.out 3; have hfz36_4 := blk_frozen BK1073.out 4; have hcz37_0 : w34.cell? ⟨gb1074, 0, none⟩ = some (.slice none 0 0) := (blk_cell BK1074.out 0).trans rfl; have hcz37_1 : w34.cell? ⟨gb1074, 1, none⟩ = some (.int .i64 0) := (blk_cell BK1074.out 1).trans rfl; have hcz37_2 : w34.cell? ⟨gb1074, 2, none⟩ = some (.bool false) := (blk_cell BK1074.out 2).trans rfl; have hcz37_3 : w34.cell? ⟨gb1074, 3, none⟩ = some (.int .i64 0) := (blk_cell BK1074.out 3).trans rfl; have hcz37_4 : w34.cell? ⟨gb1074, 4, none⟩ = some (.int .i64 0) := (blk_cell BK1074.out 4).trans rfl; have hfz37_0 := blk_frozen BK1074.out 0; have hfz37_1 := blk_frozen BK1074.out 1; have hfz37_2 := blk_frozen BK1074.out 2; have hfz37_3 := blk_frozen BK1074.out 3; have hfz37_4 := blk_frozen BK1074.out 4))
    refine bodyPost_ret (results_cell_row rfl _ _ gb1074 77 #[.slice Ao35 y1095.length co35, .int .i64 a0_1, .bool a0_2, .int .i64 a0_3, .int .i64 a0_4] (0, 0) _ rfl (by (with_reducible repeat (first | refine blk_drewN ?_ _ | refine blk_drew ?_ | refine blk_alloc ?_ _)); refine blk_put (cs := #[.slice Ao35 y1095.length co35, .int .i64 a0_1, .bool a0_2, .int .i64 a0_3, .int .i64 0]) ?_ 4 _ rfl; (with_reducible repeat (first | refine blk_drewN ?_ _ | refine blk_drew ?_ | refine blk_alloc ?_ _)); refine blk_put (cs := #[.slice Ao35 y1095.length co35, .int .i64 a0_1, .bool a0_2, .int .i64 0, .int .i64 0]) ?_ 3 _ rfl; (with_reducible repeat (first | refine blk_drewN ?_ _ | refine blk_drew ?_ | refine blk_alloc ?_ _)); refine blk_put (cs := #[.slice Ao35 y1095.length co35, .int .i64 a0_1, .bool false, .int .i64 0, .int .i64 0]) ?_ 2 _ rfl; (with_reducible repeat (first | refine blk_drewN ?_ _ | refine blk_drew ?_ | refine blk_alloc ?_ _)); refine blk_put (cs := #[.slice Ao35 y1095.length co35, .int .i64 0, .bool false, .int .i64 0, .int .i64 0]) ?_ 1 _ rfl; (with_reducible repeat (first | refine blk_drewN ?_ _ | refine blk_drew ?_ | refine blk_alloc ?_ _)); refine blk_put (cs := #[.slice none 0 0, .int .i64 0, .bool false, .int .i64 0, .int .i64 0]) ?_ 0 _ rfl; (with_reducible repeat (first | refine blk_drewN ?_ _ | refine blk_drew ?_ | refine blk_alloc ?_ _)); refine blk_far ?_ NB1074_1073.out _; (with_reducible repeat (first | refine blk_drewN ?_ _ | refine blk_drew ?_ | refine blk_alloc ?_ _)); exact BK1074.out) Try.underlying77 rfl (by kernel_rfl)) rfl ?_
    exact ⟨_, by first | rfl | (simp [errW_none, errW_some] <;> rfl) | (simp [*, errW_none, errW_some] <;> rfl), by (with_reducible repeat (first | apply Kd.R_alloc | apply Kd.R_drewN | apply Kd.R_drew)); exact Kd.R_mono (Kd.R_far (p := ⟨gb1074, 4, none⟩) (Kd.R_far (p := ⟨gb1074, 3, none⟩) (Kd.R_far (p := ⟨gb1074, 2, none⟩) (Kd.R_far (p := ⟨gb1074, 1, none⟩) (Kd.R_far (p := ⟨gb1074, 0, none⟩) (Kd.R_far (p := ⟨gb1073, 0, none⟩) (Kd.R_types (Kd.R_types HO1097.out BK1073.out (by decide)) BK1074.out (by decide)) (fun _ hk => hk.1.2) (.slice Ao35 y1095.length co35)) (fun _ hk => hk.2) (.slice Ao35 y1095.length co35)) (fun _ hk => hk.2) (.int .i64 a0_1)) (fun _ hk => hk.2) (.bool a0_2)) (fun _ hk => hk.2) (.int .i64 a0_3)) (fun _ hk => hk.2) (.int .i64 a0_4)) (fun _ hk => trivial), by repeat (first | (with_reducible first | exact HB.out | apply below_alloc | apply pw_below_drewN | apply below_drew1 | refine below_set ?_ GE1073.out | refine below_set ?_ GE1074.out) | exact HB.out)⟩
   ·rw [if_neg c24] at H
    exact absurd H (by simp)
 ·replace c4 := Bool.eq_false_iff.mpr c4
  subst c4
  have H1 : (some (([] : List Int), 0, false, 0, 0)) = some (r1, r2, r3, r4, r5) := by rw [if_neg (show ¬ (false = true) by decide)] at H; exact H
  clear H
  have H := H1
  clear H1
  simp only [Option.some.injEq, Prod.mk.injEq] at H
  obtain ⟨rfl, rfl, rfl, rfl, rfl⟩ := H
  go_enter Try.func69, Try.ntmps69
  go_wp2_with (first | ((with_reducible refine gate_dst (N := 2) rfl ?_); refine box_event ?hg (N := 2) ?hd (cs := #[.slice A0_0 l0_0.length c0_0, .int .i64 a0_1, .bool a0_2, .int .i64 a0_3, .int .i64 a0_4]) (t := 77) ?hr ?_; (case hd => rfl); (case hg => rfl); (case hr => first | (go_simp; done) | (go_simp; rfl)); intro gb1073 hg w38 hbox hb; have n0_ := Aside0.mk (below_step (by repeat (first | (with_reducible first | exact HB.out | apply below_alloc | apply pw_below_drewN | apply below_drew1) | exact HB.out)) hb); have n1_ := Aside0.mk (hbox); have n2_ := Aside0.mk ((by rw [hg]; exact (below_size (by repeat (first | (with_reducible first | exact HB.out | apply below_alloc | apply pw_below_drewN | apply below_drew1) | exact HB.out))) : w.heap.size ≤ gb1073)); have n3_ := Aside0.mk ((by rw [hg]; exact (below_size (by repeat (first | (with_reducible first | exact HB.out | apply below_alloc | apply pw_below_drewN | apply below_drew1) | exact HB.out))) : w.heap.size ≤ gb1073)); clear HB; have HB := n0_; have BK1073 := n1_; have GW1073 := n2_; have GE1073 := n3_; clear n0_ n1_ n2_ n3_; clear hb hbox hg) | ((with_reducible refine gate_dst (N := 4) rfl ?_); refine box_event ?hg (N := 4) ?hd (cs := #[.slice none 0 0, .int .i64 0, .bool false, .int .i64 0, .int .i64 0]) (t := 77) ?hr ?_; (case hd => rfl); (case hg => rfl); (case hr => first | (go_simp; done) | (go_simp; rfl)); intro gb1074 hg w39 hbox hb; have n0_ := Aside0.mk (blk_below (g := gb1073) (o := .cells #[.slice A0_0 l0_0.length c0_0, .int .i64 a0_1, .bool a0_2, .int .i64 a0_3, .int .i64 a0_4] 77 (0, 0)) (by (with_reducible repeat (first | refine blk_drewN ?_ _ | refine blk_drew ?_ | refine blk_alloc ?_ _)); exact BK1073.out) hb); have n1_ := Aside0.mk (below_step (by repeat (first | (with_reducible first | exact HB.out | apply below_alloc | apply pw_below_drewN | apply below_drew1 | refine below_set ?_ GE1073.out) | exact HB.out)) hb); have n2_ := Aside0.mk (hbox); have n3_ := Aside0.mk ((by rw [hg]; exact (below_size (by repeat (first | (with_reducible first | exact HB.out | apply below_alloc | apply pw_below_drewN | apply below_drew1 | refine below_set ?_ GE1073.out) | exact HB.out))) : w.heap.size ≤ gb1074)); have n4_ := Aside0.mk ((by rw [hg]; exact (below_size (by repeat (first | (with_reducible first | exact HB.out | apply below_alloc | apply pw_below_drewN | apply below_drew1 | refine below_set ?_ GE1073.out) | exact HB.out))) : w.heap.size ≤ gb1074)); have n5_ := Aside0.mk ((by rw [hg]; exact Nat.ne_of_lt (blk_lt (g := gb1073) (o := .cells #[.slice A0_0 l0_0.length c0_0, .int .i64 a0_1, .bool a0_2, .int .i64 a0_3, .int .i64 a0_4] 77 (0, 0)) (by (with_reducible repeat (first | refine blk_drewN ?_ _ | refine blk_drew ?_ | refine blk_alloc ?_ _)); exact BK1073.out)) : gb1073 ≠ gb1074)); have n6_ := Aside0.mk ((by rw [hg]; exact Nat.ne_of_gt (blk_lt (g := gb1073) (o := .cells #[.slice A0_0 l0_0.length c0_0, .int .i64 a0_1, .bool a0_2, .int .i64 a0_3, .int .i64 a0_4] 77 (0, 0)) (by (with_reducible repeat (first | refine blk_drewN ?_ _ | refine blk_drew ?_ | refine blk_alloc ?_ _)); exact BK1073.out)) : gb1074 ≠ gb1073)); clear BK1073; clear HB; have BK1073 := n0_; have HB := n1_; have BK1074 := n2_; have GW1074 := n3_; have GE1074 := n4_; have NB1073_1074 := n5_; have NB1074_1073 := n6_; clear n0_ n1_ n2_ n3_ n4_ n5_ n6_; clear hb hbox hg; have hnb40 := NB1073_1074.out; have hnc40 := NB1074_1073.out; have hcz41_0 : w39.cell? ⟨gb1073, 0, none⟩ = some (.slice A0_0 l0_0.length c0_0) := (blk_cell BK1073.out 0).trans rfl; have hcz41_1 : w39.cell? ⟨gb1073, 1, none⟩ = some (.int .i64 a0_1) := (blk_cell BK1073.out 1).trans rfl; have hcz41_2 : w39.cell? ⟨gb1073, 2, none⟩ = some (.bool a0_2) := (blk_cell BK1073.out 2).trans rfl; have hcz41_3 : w39.cell? ⟨gb1073, 3, none⟩ = some (.int .i64 a0_3) := (blk_cell BK1073.out 3).trans rfl; have hcz41_4 : w39.cell? ⟨gb1073, 4, none⟩ = some (.int .i64 a0_4) := (blk_cell BK1073.out 4).trans rfl; have hfz41_0 := blk_frozen BK1073.out 0; have hfz41_1 := blk_frozen BK1073.out 1; have hfz41_2 := blk_frozen BK1073.out 2; have hfz41_3 := blk_frozen BK1073.out 3; have hfz41_4 := blk_frozen BK1073.out 4) | ((with_reducible refine gate_callee (f := 65) rfl ?_); refine goesL_ (some 6) rfl rfl Try.func65 (by kernel_rfl) rfl #[.agg #[.slice A0_0 l0_0.length c0_0, .int .i64 a0_1, .bool a0_2, .int .i64 a0_3, .int .i64 a0_4]] rfl (by (try simp only [List.map_toArray, List.map_cons, List.map_nil]); first | done | rfl | (simp only [List.length_drop, List.length_take]; rfl)) ?_; (with_reducible refine (spec_FeedOk.calls k _ _ l0_0 a0_1 a0_2 a0_3 a0_4 false _ ?side1 ?side2 A3.out).mono ?_); (case side1 => repeat (first | exact (Kd.C_below HR0_0.out HB.out) | (with_reducible refine Kd.C_alloc ?_ _) | (with_reducible refine Kd.C_drewN ?_ _) | (with_reducible refine Kd.C_drew ?_))); (case side2 => exact HC0_0.out); rintro e w42 ⟨rfl, hb⟩; refine ⟨_, rfl, ?_⟩; have n0_ := Aside0.mk (blk_below (g := gb1073) (o := .cells #[.slice A0_0 l0_0.length c0_0, .int .i64 a0_1, .bool a0_2, .int .i64 a0_3, .int .i64 a0_4] 77 (0, 0)) (by (with_reducible repeat (first | refine blk_drewN ?_ _ | refine blk_drew ?_ | refine blk_alloc ?_ _)); exact BK1073.out) hb); have n1_ := Aside0.mk (blk_below (g := gb1074) (o := .cells #[.slice none 0 0, .int .i64 0, .bool false, .int .i64 0, .int .i64 0] 77 (0, 0)) (by (with_reducible repeat (first | refine blk_drewN ?_ _ | refine blk_drew ?_ | refine blk_alloc ?_ _)); exact BK1074.out) hb); have n2_ := Aside0.mk (below_step (by repeat (first | (with_reducible first | exact HB.out | apply below_alloc | apply pw_below_drewN | apply below_drew1 | refine below_set ?_ GE1073.out | refine below_set ?_ GE1074.out) | exact HB.out)) hb); clear BK1073; clear BK1074; clear HB; have BK1073 := n0_; have BK1074 := n1_; have HB := n2_; clear n0_ n1_ n2_; (try clear hb); (try clear hb2); (try clear hk); (try clear hi); have hcz43_0 : w42.cell? ⟨gb1074, 0, none⟩ = some (.slice none 0 0) := (blk_cell BK1074.out 0).trans rfl; have hcz43_1 : w42.cell? ⟨gb1074, 1, none⟩ = some (.int .i64 0) := (blk_cell BK1074.out 1).trans rfl; have hcz43_2 : w42.cell? ⟨gb1074, 2, none⟩ = some (.bool false) := (blk_cell BK1074.out 2).trans rfl; have hcz43_3 : w42.cell? ⟨gb1074, 3, none⟩ = some (.int .i64 0) := (blk_cell BK1074.out 3).trans rfl; have hcz43_4 : w42.cell? ⟨gb1074, 4, none⟩ = some (.int .i64 0) := (blk_cell BK1074.out 4).trans rfl; have hfz43_0 := blk_frozen BK1074.out 0; have hfz43_1 := blk_frozen BK1074.out 1; have hfz43_2 := blk_frozen BK1074.out 2; have hfz43_3 := blk_frozen BK1074.out 3; have hfz43_4 := blk_frozen BK1074.out 4))
  refine bodyPost_ret (results_cell_row rfl _ _ gb1074 77 #[.slice none 0 0, .int .i64 0, .bool false, .int .i64 0, .int .i64 0] (0, 0) _ rfl (by (with_reducible repeat (first | refine blk_drewN ?_ _ | refine blk_drew ?_ | refine blk_alloc ?_ _)); refine blk_put (cs := #[.slice none 0 0, .int .i64 0, .bool false, .int .i64 0, .int .i64 0]) ?_ 4 _ rfl; (with_reducible repeat (first | refine blk_drewN ?_ _ | refine blk_drew ?_ | refine blk_alloc ?_ _)); refine blk_put (cs := #[.slice none 0 0, .int .i64 0, .bool false, .int .i64 0, .int .i64 0]) ?_ 3 _ rfl; (with_reducible repeat (first | refine blk_drewN ?_ _ | refine blk_drew ?_ | refine blk_alloc ?_ _)); refine blk_put (cs := #[.slice none 0 0, .int .i64 0, .bool false, .int .i64 0, .int .i64 0]) ?_ 2 _ rfl; (with_reducible repeat (first | refine blk_drewN ?_ _ | refine blk_drew ?_ | refine blk_alloc ?_ _)); refine blk_put (cs := #[.slice none 0 0, .int .i64 0, .bool false, .int .i64 0, .int .i64 0]) ?_ 1 _ rfl; (with_reducible repeat (first | refine blk_drewN ?_ _ | refine blk_drew ?_ | refine blk_alloc ?_ _)); refine blk_put (cs := #[.slice none 0 0, .int .i64 0, .bool false, .int .i64 0, .int .i64 0]) ?_ 0 _ rfl; (with_reducible repeat (first | refine blk_drewN ?_ _ | refine blk_drew ?_ | refine blk_alloc ?_ _)); exact BK1074.out) Try.underlying77 rfl (by kernel_rfl)) rfl ?_
  exact ⟨_, by first | rfl | (simp [errW_none, errW_some] <;> rfl) | (simp [*, errW_none, errW_some] <;> rfl), by first | exact Kd.R_nil _ _ _ _ _ | exact Kd.N_nil _ _ _ _ _ | exact Kd.V_nil _ _ _ _ _ | exact Kd.Q_nil _ _ _ _ _ | exact Kd.S_nil _ _ _ _ _, by repeat (first | (with_reducible first | exact HB.out | apply below_alloc | apply pw_below_drewN | apply below_drew1 | refine below_set ?_ GE1073.out | refine below_set ?_ GE1074.out) | exact HB.out)⟩
theorem spec_l20Tell.long (l : List Int) (hl : 60000 < l.length) : Ev (fun k => spec_l20Tell.f k l) ([], 0, false, 1, 0) := by
 unfold spec_l20Tell.f
 exact Ev.ip (by omega) (Ev.now _)
theorem spec_Push.ev (l : List Int) (n : Int) (o : Bool) (fc fa : Int) (m : List Int) (hb : isB l = true) (hl : l.length ≤ 1048576) (hbm : isB m = true) (hm : m.length ≤ 1048576) : Ev (fun k => spec_Push.f k l n o fc fa m) (pushM l n o fc fa m) := by
 unfold spec_Push.f pushM
 refine Ev.bind (spec_FeedOk.ev l n o fc fa hb) ?_
 cases hok : feedOkM l n o fc fa with
 | false => rw [if_pos rfl]; exact Ev.ng (by decide) (Ev.now _)
 | true =>
  rw [if_neg (by decide)]
  refine Ev.ip rfl ?_
  by_cases hfc : fc = 0
  ·rw [if_neg (by simpa using hfc)]
   refine Ev.ip hfc (Ev.bind (Ev.c rfl) (Ev.ip (by simp; omega) (Ev.bind (Ev.c rfl) (Ev.ip (by simp; omega) ?_))))
   rw [List.nil_append]
   by_cases h60 : 60000 < (l ++ m).length
   ·rw [if_pos h60]
    exact Ev.bind (spec_l20Tell.long _ h60) (Ev.now _)
   ·rw [if_neg h60]
    exact Ev.bind (spec_l20Tell.ev (l ++ m) (by unfold isB at hb hbm ⊢; rw [List.all_append, hb, hbm]; rfl) (by omega)) (Ev.now _)
  ·rw [if_pos hfc]
   refine Ev.ng hfc (Ev.bind (Ev.c rfl) (Ev.ip (by simp; omega) (Ev.eq (Ev.now _) (by simp))))
end Go.Proofs.Ytcjjmfpkhhdmlaa.G
