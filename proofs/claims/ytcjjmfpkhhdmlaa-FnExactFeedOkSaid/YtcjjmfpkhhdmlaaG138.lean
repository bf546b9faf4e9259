-- Written by gp.py (a program of this session's, over the kit's print). Not trusted: Lean checks it.
import Derived.Test.YtcjjmfpkhhdmlaaG0h
import Derived.Test.YtcjjmfpkhhdmlaaG140
import Derived.Test.YtcjjmfpkhhdmlaaG58
import Derived.Test.YtcjjmfpkhhdmlaaGLib
import Derived.Test.YtcjjmfpkhhdmlaaGReader
namespace Go.Proofs.Ytcjjmfpkhhdmlaa.G
open Go.RowKit Go.Proofs.YtcjjmfpkhhdmlaaW.PrintWords Go.Proofs.YtcjjmfpkhhdmlaaW.PrintLast Go.Proofs.YtcjjmfpkhhdmlaaW.PrintMore
attribute [local go_sem] max2_int min2_int max_two min_two max_three min_three max_four min_four   -- for this text's walks alone
set_option linter.unusedVariables false
set_option linter.unusedSimpArgs false

/-! ### spec_l20Tell: function 138 -/
def spec_l20Tell.f (k : Nat) (l0 : List Int) : Option (List Int × Int × Bool × Int × Int) := if (l0.length : Int) > 60000 then (some (([] : List Int), 0, false, 1, 0)) else ((spec_SegsSoFar.f k l0).bind fun bt1051 => ((some (([] : List Int) : List Int)).bind fun y1058 => (if y1058.length + l0.length < 140737488355328 then (some ((y1058 ++ l0), (bt1051.1.length : Int), bt1051.2.1, bt1051.2.2.1, bt1051.2.2.2)) else (none))))
theorem spec_l20Tell.mono : ∀ a0 k, LeO (spec_l20Tell.f k a0) (spec_l20Tell.f (k + 1) a0) := by
  intro a0 k
  unfold spec_l20Tell.f
  repeat' first
      | (with_reducible exact spec_SegsSoFar.mono _ _)
      | (with_reducible exact LeO.refl _)
      | (with_reducible exact LeO.none _)
      | (with_reducible refine LeO.ite ?_ ?_)
      | (with_reducible refine LeO.bind ?_ (fun _ => ?_))
      | exact spec_SegsSoFar.mono _ _
      | exact LeO.none _
      | refine LeO.ite ?_ ?_
      | refine LeO.bind ?_ (fun _ => ?_)
def spec_l20Tell.T4 : Bool × List (List Nat × List Nat) := (true, [([], []), ([], []), ([0, 1], [0, 1]), ([], []), ([3], [3]), ([], []), ([], []), ([2, 4, 5, 6], [2, 4, 5, 6]), ([7, 2, 0, 1, 2, 3, 4, 5, 6, 7], [7])])
def spec_l20Tell.B4 : List Nat := [0, 0, 3, 0, 8, 0, 0, 127, 255]
theorem spec_l20Tell.tab4 : rtab .any (opsOf Try.f138 4) = spec_l20Tell.T4 := by kernel_rfl
theorem spec_l20Tell.bits4 : waitsOk spec_l20Tell.T4.2 spec_l20Tell.B4 = true := by kernel_rfl
set_option maxHeartbeats 8000000 in
set_option maxRecDepth 100000 in
theorem spec_l20Tell.calls (k : Nat) (A0 : Option Addr) (c0 : Nat) (l0 : List Int) (r1 : List Int) (r2 : Int) (r3 : Bool) (r4 : Int) (r5 : Int) (w : World) (hr0 : Kd.C (Kd.int .u8) w A0 l0.length l0) (hc0 : l0.length ≤ c0) (h : spec_l20Tell.f k l0 = some (r1, r2, r3, r4, r5)) :
    Calls Try.prog 138 #[.slice A0 l0.length c0] w fun e w' => ∃ v0_ : Value, e = .returned (.agg #[v0_, .int .i64 r2, .bool r3, .int .i64 r4, .int .i64 r5]) ∧ Kd.R (Kd.int .u8) 5 w' w.heap.size (fun _ => True) v0_ r1 ∧ Below w.heap.size w w' := by
  have hu77 := Try.underlying77
  have hu65 := Try.underlying65
  have HR0 := Aside0.mk hr0
  have HC0 := Aside0.mk hc0
  clear hr0 hc0
  have HB := Aside0.mk (Below.refl w.heap.size w)
  have H : (if (l0.length : Int) > 60000 then (some (([] : List Int), 0, false, 1, 0)) else ((spec_SegsSoFar.f k l0).bind fun bt1051 => ((some (([] : List Int) : List Int)).bind fun y1058 => (if y1058.length + l0.length < 140737488355328 then (some ((y1058 ++ l0), (bt1051.1.length : Int), bt1051.2.1, bt1051.2.2.1, bt1051.2.2.2)) else (none))))) = some (r1, r2, r3, r4, r5) := h
  clear h
  by_cases c2 : (l0.length : Int) > 60000
  · rw [if_pos c2] at H
    have c2b0 : decide (60000 < (l0.length : Int)) = true := decide_eq_true c2
    have c2b1 : decide (60000 < l0.length) = true := decide_eq_true (by omega)
    clear c2
    simp only [Option.some.injEq, Prod.mk.injEq] at H
    obtain ⟨rfl, rfl, rfl, rfl, rfl⟩ := H
    go_enter Try.func138, Try.ntmps138
    go_wp2_with (first | ((with_reducible refine gate_dst (N := 2) rfl ?_); refine box_event ?hg (N := 2) ?hd (cs := #[.slice none 0 0, .int .i64 0, .bool false, .int .i64 0, .int .i64 0]) (t := 77) ?hr ?_; (case hd => rfl); (case hg => rfl); (case hr => first | (go_simp; done) | (go_simp; rfl)); intro gb1050 hg w3 hbox hb; have n0_ := Aside0.mk (below_step (by repeat (first | (with_reducible first | exact HB.out | apply below_alloc | apply pw_below_drewN | apply below_drew1) | exact HB.out)) hb); have n1_ := Aside0.mk (hbox); have n2_ := Aside0.mk ((by rw [hg]; exact (below_size (by repeat (first | (with_reducible first | exact HB.out | apply below_alloc | apply pw_below_drewN | apply below_drew1) | exact HB.out))) : w.heap.size ≤ gb1050)); have n3_ := Aside0.mk ((by rw [hg]; exact (below_size (by repeat (first | (with_reducible first | exact HB.out | apply below_alloc | apply pw_below_drewN | apply below_drew1) | exact HB.out))) : w.heap.size ≤ gb1050)); clear HB; have HB := n0_; have BK1050 := n1_; have GW1050 := n2_; have GE1050 := n3_; clear n0_ n1_ n2_ n3_; clear hb hbox hg; have hcz4_0 : w3.cell? ⟨gb1050, 0, none⟩ = some (.slice none 0 0) := (blk_cell BK1050.out 0).trans rfl; have hcz4_1 : w3.cell? ⟨gb1050, 1, none⟩ = some (.int .i64 0) := (blk_cell BK1050.out 1).trans rfl; have hcz4_2 : w3.cell? ⟨gb1050, 2, none⟩ = some (.bool false) := (blk_cell BK1050.out 2).trans rfl; have hcz4_3 : w3.cell? ⟨gb1050, 3, none⟩ = some (.int .i64 0) := (blk_cell BK1050.out 3).trans rfl; have hcz4_4 : w3.cell? ⟨gb1050, 4, none⟩ = some (.int .i64 0) := (blk_cell BK1050.out 4).trans rfl; have hfz4_0 := blk_frozen BK1050.out 0; have hfz4_1 := blk_frozen BK1050.out 1; have hfz4_2 := blk_frozen BK1050.out 2; have hfz4_3 := blk_frozen BK1050.out 3; have hfz4_4 := blk_frozen BK1050.out 4))
    refine bodyPost_ret (results_cell_row rfl _ _ gb1050 77 #[.slice none 0 0, .int .i64 0, .bool false, .int .i64 1, .int .i64 0] (0, 0) _ rfl (by (with_reducible repeat (first | refine blk_drewN ?_ _ | refine blk_drew ?_ | refine blk_alloc ?_ _)); refine blk_put (cs := #[.slice none 0 0, .int .i64 0, .bool false, .int .i64 1, .int .i64 0]) ?_ 4 _ rfl; (with_reducible repeat (first | refine blk_drewN ?_ _ | refine blk_drew ?_ | refine blk_alloc ?_ _)); refine blk_put (cs := #[.slice none 0 0, .int .i64 0, .bool false, .int .i64 0, .int .i64 0]) ?_ 3 _ rfl; (with_reducible repeat (first | refine blk_drewN ?_ _ | refine blk_drew ?_ | refine blk_alloc ?_ _)); refine blk_put (cs := #[.slice none 0 0, .int .i64 0, .bool false, .int .i64 0, .int .i64 0]) ?_ 2 _ rfl; (with_reducible repeat (first | refine blk_drewN ?_ _ | refine blk_drew ?_ | refine blk_alloc ?_ _)); refine blk_put (cs := #[.slice none 0 0, .int .i64 0, .bool false, .int .i64 0, .int .i64 0]) ?_ 1 _ rfl; (with_reducible repeat (first | refine blk_drewN ?_ _ | refine blk_drew ?_ | refine blk_alloc ?_ _)); refine blk_put (cs := #[.slice none 0 0, .int .i64 0, .bool false, .int .i64 0, .int .i64 0]) ?_ 0 _ rfl; (with_reducible repeat (first | refine blk_drewN ?_ _ | refine blk_drew ?_ | refine blk_alloc ?_ _)); exact BK1050.out) Try.underlying77 rfl (by kernel_rfl)) rfl ?_
    exact ⟨_, by first | rfl | (simp [errW_none, errW_some] <;> rfl) | (simp [*, errW_none, errW_some] <;> rfl), by first | exact Kd.R_nil _ _ _ _ _ | exact Kd.N_nil _ _ _ _ _ | exact Kd.V_nil _ _ _ _ _ | exact Kd.Q_nil _ _ _ _ _ | exact Kd.S_nil _ _ _ _ _, by repeat (first | (with_reducible first | exact HB.out | apply below_alloc | apply pw_below_drewN | apply below_drew1 | refine below_set ?_ GE1050.out) | exact HB.out)⟩
  · rw [if_neg c2] at H
    have c2b0 : decide (60000 < (l0.length : Int)) = false := decide_eq_false c2
    have c2b1 : decide (60000 < l0.length) = false := decide_eq_false (by omega)
    clear c2
    replace H := Option.bind_eq_some_iff.mp H
    obtain ⟨⟨t1051, t1054, t1055, t1056⟩, A50, H⟩ := H
    replace H : ((some (([] : List Int) : List Int)).bind fun y1058 => (if y1058.length + l0.length < 140737488355328 then (some ((y1058 ++ l0), (t1051.length : Int), t1054, t1055, t1056)) else (none))) = some (r1, r2, r3, r4, r5) := H
    have A5 := Aside0.mk A50
    clear A50
    obtain ⟨y1058, hy1058⟩ : ∃ y_ : List Int, y_ = (([] : List Int)) := ⟨_, rfl⟩
    replace H : (if y1058.length + l0.length < 140737488355328 then (some ((y1058 ++ l0), (t1051.length : Int), t1054, t1055, t1056)) else (none)) = some (r1, r2, r3, r4, r5) := by first | (rw [hy1058]; with_reducible exact H) | (have H2_ := (Option.bind_some _ _).symm.trans H; rw [hy1058]; with_reducible exact H2_) | (have H2_ := (Option.bind_some _ _).symm.trans H; with_reducible exact H2_) | with_reducible exact H | (rw [hy1058]; exact H) | exact H
    have Ny1058 := Aside0.mk hy1058
    clear hy1058
    by_cases c6 : y1058.length + l0.length < 140737488355328
    · rw [if_pos c6] at H
      have LMc6 := Aside0.mk c6
      clear c6
      obtain ⟨y1061, hy1061⟩ : ∃ y_ : List Int, y_ = (y1058 ++ l0) := ⟨_, rfl⟩
      replace H : (some (y1061, (t1051.length : Int), t1054, t1055, t1056)) = some (r1, r2, r3, r4, r5) := by first | (rw [hy1061]; with_reducible exact H) | (have H2_ := (Option.bind_some _ _).symm.trans H; rw [hy1061]; with_reducible exact H2_) | (have H2_ := (Option.bind_some _ _).symm.trans H; with_reducible exact H2_) | with_reducible exact H | (rw [hy1061]; exact H) | exact H
      have Ny1061 := Aside0.mk hy1061
      clear hy1061
      simp only [Option.some.injEq, Prod.mk.injEq] at H
      obtain ⟨rfl, rfl, rfl, rfl, rfl⟩ := H
      go_enter Try.func138, Try.ntmps138
      try go_wp2_with (first | ((with_reducible refine gate_dst (N := 2) rfl ?_); refine box_event ?hg (N := 2) ?hd (cs := #[.slice none 0 0, .int .i64 0, .bool false, .int .i64 0, .int .i64 0]) (t := 77) ?hr ?_; (case hd => rfl); (case hg => rfl); (case hr => first | (go_simp; done) | (go_simp; rfl)); intro gb1050 hg w7 hbox hb; have n0_ := Aside0.mk (below_step (by repeat (first | (with_reducible first | exact HB.out | apply below_alloc | apply pw_below_drewN | apply below_drew1) | exact HB.out)) hb); have n1_ := Aside0.mk (hbox); have n2_ := Aside0.mk ((by rw [hg]; exact (below_size (by repeat (first | (with_reducible first | exact HB.out | apply below_alloc | apply pw_below_drewN | apply below_drew1) | exact HB.out))) : w.heap.size ≤ gb1050)); have n3_ := Aside0.mk ((by rw [hg]; exact (below_size (by repeat (first | (with_reducible first | exact HB.out | apply below_alloc | apply pw_below_drewN | apply below_drew1) | exact HB.out))) : w.heap.size ≤ gb1050)); clear HB; have HB := n0_; have BK1050 := n1_; have GW1050 := n2_; have GE1050 := n3_; clear n0_ n1_ n2_ n3_; clear hb hbox hg) | ((with_reducible refine gate_callee (f := 58) rfl ?_); refine goesL_ (some 13) rfl rfl Try.func58 (by kernel_rfl) rfl #[.slice A0 l0.length c0] rfl (by (try simp only [List.map_toArray, List.map_cons, List.map_nil]); first | done | rfl | (simp only [List.length_drop, List.length_take]; rfl)) ?_; (with_reducible refine (spec_SegsSoFar.calls k _ _ l0 t1051 t1054 t1055 t1056 _ ?side1 ?side2 A5.out).mono ?_); (case side1 => repeat (first | exact (Kd.C_below HR0.out HB.out) | (with_reducible refine Kd.C_alloc ?_ _) | (with_reducible refine Kd.C_drewN ?_ _) | (with_reducible refine Kd.C_drew ?_))); (case side2 => exact HC0.out); rintro e w8 ⟨v1052, rfl, ho0, hb⟩; refine ⟨_, rfl, ?_⟩; have n0_ := Aside0.mk (Kd.S_lower ho0 (below_size (by repeat (first | (with_reducible first | exact HB.out | apply below_alloc | apply pw_below_drewN | apply below_drew1 | refine below_set ?_ GE1050.out) | exact HB.out)))); have n1_ := Aside0.mk (blk_below (g := gb1050) (o := .cells #[.slice none 0 0, .int .i64 0, .bool false, .int .i64 0, .int .i64 0] 77 (0, 0)) (by (with_reducible repeat (first | refine blk_drewN ?_ _ | refine blk_drew ?_ | refine blk_alloc ?_ _)); exact BK1050.out) hb); have n2_ := Aside0.mk (below_step (by repeat (first | (with_reducible first | exact HB.out | apply below_alloc | apply pw_below_drewN | apply below_drew1 | refine below_set ?_ GE1050.out) | exact HB.out)) hb); clear BK1050; clear HB; have HO1053 := n0_; have BK1050 := n1_; have HB := n2_; clear n0_ n1_ n2_; (try clear hb); (try clear hb2); (try clear hk); (try clear hi); (try clear ho0)) | ((with_reducible refine gate_dst (N := 5) rfl ?_); refine box_event ?hg (N := 5) ?hd (cs := #[.int .i64 0, .int .i64 0]) (t := 65) ?hr ?_; (case hd => rfl); (case hg => rfl); (case hr => first | (go_simp; done) | (go_simp; rfl)); intro gb1057 hg w9 hbox hb; have n0_ := Aside0.mk (Kd.S_below (by (with_reducible repeat (first | apply Kd.S_alloc | apply Kd.S_drewN | apply Kd.S_drew)); exact HO1053.out) hb); have n1_ := Aside0.mk (blk_below (g := gb1050) (o := .cells #[.slice none 0 0, .int .i64 0, .bool false, .int .i64 0, .int .i64 0] 77 (0, 0)) (by (with_reducible repeat (first | refine blk_drewN ?_ _ | refine blk_drew ?_ | refine blk_alloc ?_ _)); exact BK1050.out) hb); have n2_ := Aside0.mk (below_step (by repeat (first | (with_reducible first | exact HB.out | apply below_alloc | apply pw_below_drewN | apply below_drew1 | refine below_set ?_ GE1050.out) | exact HB.out)) hb); have n3_ := Aside0.mk (hbox); have n4_ := Aside0.mk ((by rw [hg]; exact (below_size (by repeat (first | (with_reducible first | exact HB.out | apply below_alloc | apply pw_below_drewN | apply below_drew1 | refine below_set ?_ GE1050.out) | exact HB.out))) : w.heap.size ≤ gb1057)); have n5_ := Aside0.mk ((by rw [hg]; exact (below_size (by repeat (first | (with_reducible first | exact HB.out | apply below_alloc | apply pw_below_drewN | apply below_drew1 | refine below_set ?_ GE1050.out) | exact HB.out))) : w.heap.size ≤ gb1057)); have n6_ := Aside0.mk ((by rw [hg]; exact Nat.ne_of_lt (blk_lt (g := gb1050) (o := .cells #[.slice none 0 0, .int .i64 0, .bool false, .int .i64 0, .int .i64 0] 77 (0, 0)) (by (with_reducible repeat (first | refine blk_drewN ?_ _ | refine blk_drew ?_ | refine blk_alloc ?_ _)); exact BK1050.out)) : gb1050 ≠ gb1057)); have n7_ := Aside0.mk ((by rw [hg]; exact Nat.ne_of_gt (blk_lt (g := gb1050) (o := .cells #[.slice none 0 0, .int .i64 0, .bool false, .int .i64 0, .int .i64 0] 77 (0, 0)) (by (with_reducible repeat (first | refine blk_drewN ?_ _ | refine blk_drew ?_ | refine blk_alloc ?_ _)); exact BK1050.out)) : gb1057 ≠ gb1050)); clear HO1053; clear BK1050; clear HB; have HO1053 := n0_; have BK1050 := n1_; have HB := n2_; have BK1057 := n3_; have GW1057 := n4_; have GE1057 := n5_; have NB1050_1057 := n6_; have NB1057_1050 := n7_; clear n0_ n1_ n2_ n3_ n4_ n5_ n6_ n7_; clear hb hbox hg; have hnb10 := NB1057_1050.out; have hnc10 := NB1050_1057.out; have hcz11_0 : w9.cell? ⟨gb1057, 0, none⟩ = some (.int .i64 0) := (blk_cell BK1057.out 0).trans rfl; have hcz11_1 : w9.cell? ⟨gb1057, 1, none⟩ = some (.int .i64 0) := (blk_cell BK1057.out 1).trans rfl; have hfz11_0 := blk_frozen BK1057.out 0; have hfz11_1 := blk_frozen BK1057.out 1))
      have n0_ : Aside0 (Kd.S k131 131 ((w9.setCell ⟨gb1057, 0, none⟩ (.int .i64 t1055)).setCell ⟨gb1057, 1, none⟩ (.int .i64 t1056)) w.heap.size (fun _ => True) v1052 t1051) := ⟨by (with_reducible repeat (first | apply Kd.S_alloc | apply Kd.S_drewN | apply Kd.S_drew)); exact Kd.S_mono (Kd.S_far (p := ⟨gb1057, 1, none⟩) (Kd.S_far (p := ⟨gb1057, 0, none⟩) (Kd.S_types HO1053.out BK1057.out (by decide)) (fun _ hk => hk.2) (.int .i64 t1055)) (fun _ hk => hk.2) (.int .i64 t1056)) (fun _ hk => trivial)⟩
      have n1_ : Aside0 (((w9.setCell ⟨gb1057, 0, none⟩ (.int .i64 t1055)).setCell ⟨gb1057, 1, none⟩ (.int .i64 t1056)).heap[gb1050]? = some (.cells #[.slice none 0 0, .int .i64 0, .bool false, .int .i64 0, .int .i64 0] 77 (0, 0))) := ⟨by (with_reducible repeat (first | refine blk_drewN ?_ _ | refine blk_drew ?_ | refine blk_alloc ?_ _)); refine blk_far ?_ NB1050_1057.out _; (with_reducible repeat (first | refine blk_drewN ?_ _ | refine blk_drew ?_ | refine blk_alloc ?_ _)); refine blk_far ?_ NB1050_1057.out _; (with_reducible repeat (first | refine blk_drewN ?_ _ | refine blk_drew ?_ | refine blk_alloc ?_ _)); exact BK1050.out⟩
      have n2_ : Aside0 (((w9.setCell ⟨gb1057, 0, none⟩ (.int .i64 t1055)).setCell ⟨gb1057, 1, none⟩ (.int .i64 t1056)).heap[gb1057]? = some (.cells #[.int .i64 t1055, .int .i64 t1056] 65 (0, 0))) := ⟨by (with_reducible repeat (first | refine blk_drewN ?_ _ | refine blk_drew ?_ | refine blk_alloc ?_ _)); refine blk_put (cs := #[.int .i64 t1055, .int .i64 0]) ?_ 1 _ rfl; (with_reducible repeat (first | refine blk_drewN ?_ _ | refine blk_drew ?_ | refine blk_alloc ?_ _)); refine blk_put (cs := #[.int .i64 0, .int .i64 0]) ?_ 0 _ rfl; (with_reducible repeat (first | refine blk_drewN ?_ _ | refine blk_drew ?_ | refine blk_alloc ?_ _)); exact BK1057.out⟩
      have n3_ : Aside0 (Below w.heap.size w ((w9.setCell ⟨gb1057, 0, none⟩ (.int .i64 t1055)).setCell ⟨gb1057, 1, none⟩ (.int .i64 t1056))) := ⟨by repeat (first | (with_reducible first | exact HB.out | apply below_alloc | apply pw_below_drewN | apply below_drew1 | refine below_set ?_ GE1050.out | refine below_set ?_ GE1057.out) | exact HB.out)⟩
      (try clear HO1053)
      (try clear BK1050)
      (try clear BK1057)
      (try clear HB)
      generalize ((w9.setCell ⟨gb1057, 0, none⟩ (.int .i64 t1055)).setCell ⟨gb1057, 1, none⟩ (.int .i64 t1056)) = w12 at n0_ n1_ n2_ n3_ ⊢
      have HO1053 := n0_
      have BK1050 := n1_
      have BK1057 := n2_
      have HB := n3_
      clear n0_ n1_ n2_ n3_
      have n0_ := Aside0.mk (Kd.S_drew HO1053.out)
      have n1_ := Aside0.mk (blk_drew BK1050.out)
      have n2_ := Aside0.mk (blk_drew BK1057.out)
      have n3_ := Aside0.mk (below_drew1 HB.out)
      clear HO1053
      clear BK1050
      clear BK1057
      clear HB
      have HO1053 := n0_
      have BK1050 := n1_
      have BK1057 := n2_
      have HB := n3_
      clear n0_ n1_ n2_ n3_
      obtain ⟨Ao14, co14, eo14⟩ := Kd.S_slice HO1053.out
      (first | subst eo14 | (injection eo14 with f1_ f2_ f3_; have f4_ := f1_.symm; have f5_ := f3_.symm; clear f1_ f2_ f3_; subst f4_; subst f5_))
      refine start_ (n := 9) (S := fun w' => w'.cell? ⟨gb1057, 0, none⟩ = some (.int .i64 t1055) ∧ w'.cell? ⟨gb1057, 1, none⟩ = some (.int .i64 t1056)) (ds := []) #[false, false, false, false, false, false, false, false, false] (by kernel_rfl) rfl rfl ⟨(blk_cell BK1057.out 0).trans rfl, (blk_cell BK1057.out 1).trans rfl⟩ (fun hHeld => ?_); refine with_tabW spec_l20Tell.tab4 spec_l20Tell.bits4 (fun HT_ HW_ => ?_)
      generalize w12.drew = w13 at HO1053 BK1050 BK1057 HB hHeld ⊢
      refine pure_ (i := 1) (N := some 18) (v := ?_) (a' := ?_) #[false, true, false, false, false, false, false, false, false] rfl rfl (any_of HT_.out (by kernel_rfl)) (fun _ _ _ h => h) (Or.inl ⟨by rfl, ?_⟩) ?_ ?_
      rotate_left
      · intro w'
        go_simp
        with_reducible rfl
      rotate_left
      · simp only [Act.put, List.setIfInBounds_toArray, List.set_cons_zero, List.set_cons_succ, i64_w, i32_w]
        rfl
      refine pure_ (i := 3) (N := some 20) (v := ?_) (a' := ?_) #[false, true, false, true, false, false, false, false, false] rfl rfl (any_of HT_.out (by kernel_rfl)) (fun _ _ _ h => h) (Or.inl ⟨by rfl, ?_⟩) ?_ ?_
      rotate_left
      · intro w'
        go_simp
        with_reducible rfl
      rotate_left
      · simp only [Act.put, List.setIfInBounds_toArray, List.set_cons_zero, List.set_cons_succ, i64_w, i32_w]
        rfl
      refine pure_ (i := 4) (N := some 21) (v := ?_) (a' := ?_) #[false, true, false, true, true, false, false, false, false] rfl rfl (any_of HT_.out (by kernel_rfl)) (fun _ _ _ h => h) (Or.inl ⟨by rfl, ?_⟩) ?_ ?_
      rotate_left
      · intro w'
        go_simp
        with_reducible rfl
      rotate_left
      · simp only [Act.put, List.setIfInBounds_toArray, List.set_cons_zero, List.set_cons_succ, i64_w, i32_w]
        rfl
      refine pure_ (i := 5) (N := some 22) (v := ?_) (a' := ?_) #[false, true, false, true, true, true, false, false, false] rfl rfl (any_of HT_.out (by kernel_rfl)) (fun _ _ _ h => h) (Or.inl ⟨by rfl, ?_⟩) ?_ ?_
      rotate_left
      · intro w'
        go_simp
        with_reducible rfl
      rotate_left
      · simp only [Act.put, List.setIfInBounds_toArray, List.set_cons_zero, List.set_cons_succ, i64_w, i32_w]
        rfl
      refine take_ (i := 6) (N := some 23) (v := ?_) (a' := ?_) #[false, true, false, true, true, true, true, false, false] rfl rfl (take_ofW HT_.out HW_.out (by kernel_rfl)) (fun _ _ _ h => h) (Or.inl ⟨by rfl, ?_⟩) hHeld ?_ ?_
      rotate_left
      · rintro w' ⟨s0, s1⟩
        go_simp
        with_reducible rfl
      rotate_left
      · simp only [Act.put, List.setIfInBounds_toArray, List.set_cons_zero, List.set_cons_succ, i64_w, i32_w]
        rfl
      refine one_ (i := 0) (N := some 17) #[true, true, false, true, true, true, true, false, false] rfl rfl (one_of HT_.out (by kernel_rfl)) (by decide) (fun K hK => ?_)
      refine Kd.R_lit_step (Kd.int .u8) _ 5 ?hg (N := 17) ?hd (xs := ([] : List Int)) (inner := []) (ok := fun _ => True) (okp := fun _ => True) ?hr ?hp (fun _ hk => hk) trivial (Below.refl _ _) (Nat.le_refl _) (by simp) ?_; (case hd => rfl); (case hg => rfl); (case hr => first | (go_simp; done) | (go_simp; rfl)); (case hp => exact (Reps.none _ _))
      intro v1059 w15 ho16 hb hg_ hnew_
      clear hg_ hnew_
      (first | rw [← Ny1058.out] at ho16 | (simp only [Int.reduceToNat] at ho16; rw [← Ny1058.out] at ho16))
      have n0_ := Aside0.mk (Kd.S_elder' (by (with_reducible repeat (first | apply Kd.S_alloc | apply Kd.S_drewN | apply Kd.S_drew)); exact HO1053.out) (Kd.R_base ho16) hb)
      have n1_ := Aside0.mk (Kd.R_lower ho16 (below_size (by repeat (first | (with_reducible first | exact HB.out | apply below_alloc | apply pw_below_drewN | apply below_drew1 | refine below_set ?_ GE1050.out | refine below_set ?_ GE1057.out) | exact HB.out))))
      have n2_ := Aside0.mk (blk_below (g := gb1050) (o := .cells #[.slice none 0 0, .int .i64 0, .bool false, .int .i64 0, .int .i64 0] 77 (0, 0)) (by (with_reducible repeat (first | refine blk_drewN ?_ _ | refine blk_drew ?_ | refine blk_alloc ?_ _)); exact BK1050.out) hb)
      have n3_ := Aside0.mk (blk_below (g := gb1057) (o := .cells #[.int .i64 t1055, .int .i64 t1056] 65 (0, 0)) (by (with_reducible repeat (first | refine blk_drewN ?_ _ | refine blk_drew ?_ | refine blk_alloc ?_ _)); exact BK1057.out) hb)
      have n4_ := Aside0.mk (below_step (by repeat (first | (with_reducible first | exact HB.out | apply below_alloc | apply pw_below_drewN | apply below_drew1 | refine below_set ?_ GE1050.out | refine below_set ?_ GE1057.out) | exact HB.out)) hb)
      clear HO1053
      clear BK1050
      clear BK1057
      clear HB
      have HO1053 := n0_
      have HO1060 := n1_
      have BK1050 := n2_
      have BK1057 := n3_
      have HB := n4_
      clear n0_ n1_ n2_ n3_ n4_
      clear hb ho16
      refine hK.out _ _ ⟨(blk_cell BK1057.out 0).trans rfl, (blk_cell BK1057.out 1).trans rfl⟩ (fun hHeld => ?_)
      clear hK K
      refine norm_ (a' := ?_) ?_ ?_
      rotate_left
      · show Act.put _ (some 17) _ = _
        simp only [Act.put, List.setIfInBounds_toArray, List.set_cons_zero, List.set_cons_succ, i64_w, i32_w]
        rfl
      refine one_ (i := 2) (N := some 19) #[true, true, true, true, true, true, true, false, false] rfl rfl (one_of HT_.out (by kernel_rfl)) (by decide) (fun K hK => ?_)
      refine Kd.R_append_rows_step (Kd.int .u8) (w0 := w) w.heap.size (by rfl) (.tmp 17) (.tmp 18) 23 5 (.int .u8 0) 1 rfl Try.underlying23 info5 rfl (by decide) (by omega) v1059 y1058 l0 _ _ _ (fun _ => True) (fun _ => False) rfl rfl ?aO ?aR (fun _ _ h => h) (fun _ h => h.elim) ?aF ?aB ?aS ?aL ?_
      (case aR => repeat (first | exact (Kd.C_below HR0.out HB.out) | (with_reducible refine Kd.C_alloc ?_ _) | (with_reducible refine Kd.C_drewN ?_ _) | (with_reducible refine Kd.C_drew ?_)))
      (case aB => exact (by repeat (first | (with_reducible first | exact HB.out | apply below_alloc | apply pw_below_drewN | apply below_drew1 | refine below_set ?_ GE1050.out | refine below_set ?_ GE1057.out) | exact HB.out)))
      (case aF => exact (fun _ _ => trivial))
      (case aO => exact (by (with_reducible repeat (first | apply Kd.R_alloc | apply Kd.R_drewN | apply Kd.R_drew)); exact HO1060.out))
      (case aS => exact (below_size (by repeat (first | (with_reducible first | exact HB.out | apply below_alloc | apply pw_below_drewN | apply below_drew1 | refine below_set ?_ GE1050.out | refine below_set ?_ GE1057.out) | exact HB.out))))
      (case aL => have := LMc6.out; omega)
      intro v1062 w17 ho hb hg hat
      rw [← Ny1061.out] at ho
      have n0_ := Aside0.mk (blk_grown (g := gb1050) (o := .cells #[.slice none 0 0, .int .i64 0, .bool false, .int .i64 0, .int .i64 0] 77 (0, 0)) (by (with_reducible repeat (first | refine blk_drewN ?_ _ | refine blk_drew ?_ | refine blk_alloc ?_ _)); exact BK1050.out) hg (Kd.R_ne HO1060.out BK1050.out (by decide)))
      have n1_ := Aside0.mk (Kd.S_after (ok := (fun _ => True)) (by (with_reducible repeat (first | apply Kd.S_alloc | apply Kd.S_drewN | apply Kd.S_drew)); exact HO1053.out) hg hat)
      have n2_ := Aside0.mk (blk_grown (g := gb1057) (o := .cells #[.int .i64 t1055, .int .i64 t1056] 65 (0, 0)) (by (with_reducible repeat (first | refine blk_drewN ?_ _ | refine blk_drew ?_ | refine blk_alloc ?_ _)); exact BK1057.out) hg (Kd.R_ne HO1060.out BK1057.out (by decide)))
      have n3_ := Aside0.mk (hb)
      have n4_ := Aside0.mk (ho)
      clear BK1050
      clear HO1053
      clear BK1057
      clear HB
      clear HO1060
      have BK1050 := n0_
      have HO1053 := n1_
      have BK1057 := n2_
      have HB := n3_
      have HO1063 := n4_
      clear n0_ n1_ n2_ n3_ n4_
      clear ho hb hg hat
      obtain ⟨Ao18, co18, eo18⟩ := Kd.R_slice HO1063.out
      (first | subst eo18 | (injection eo18 with f1_ f2_ f3_; have f4_ := f1_.symm; have f5_ := f3_.symm; clear f1_ f2_ f3_; subst f4_; subst f5_))
      refine hK.out _ _ ⟨(blk_cell BK1057.out 0).trans rfl, (blk_cell BK1057.out 1).trans rfl⟩ (fun hHeld => ?_)
      clear hK K
      refine norm_ (a' := ?_) ?_ ?_
      rotate_left
      · show Act.put _ (some 19) _ = _
        simp only [Act.put, List.setIfInBounds_toArray, List.set_cons_zero, List.set_cons_succ, i64_w, i32_w]
        rfl
      refine pure_ (i := 7) (N := some 24) (v := ?_) (a' := ?_) #[true, true, true, true, true, true, true, true, false] rfl rfl (any_of HT_.out (by kernel_rfl)) (fun _ _ _ h => h) (Or.inl ⟨by rfl, ?_⟩) ?_ ?_
      rotate_left
      · intro w'
        go_simp
        with_reducible rfl
      rotate_left
      · simp only [Act.put, List.setIfInBounds_toArray, List.set_cons_zero, List.set_cons_succ, i64_w, i32_w]
        rfl
      refine one_ (i := 8) (N := none) #[true, true, true, true, true, true, true, true, true] rfl rfl (one_of HT_.out (by kernel_rfl)) (by decide) (fun K hK => ?_)
      have hs19 : w17.cell? ⟨gb1050, 0, none⟩ = some (.slice none 0 0) := (blk_cell BK1050.out 0).trans rfl
      have hfs19 := blk_frozen BK1050.out 0
      have hns19_1 := NB1057_1050.out
      have hms19_1 := NB1050_1057.out
      have hs20 : w17.cell? ⟨gb1050, 1, none⟩ = some (.int .i64 0) := (blk_cell BK1050.out 1).trans rfl
      have hfs20 := blk_frozen BK1050.out 1
      have hns20_1 := NB1057_1050.out
      have hms20_1 := NB1050_1057.out
      have hs21 : w17.cell? ⟨gb1050, 2, none⟩ = some (.bool false) := (blk_cell BK1050.out 2).trans rfl
      have hfs21 := blk_frozen BK1050.out 2
      have hns21_1 := NB1057_1050.out
      have hms21_1 := NB1050_1057.out
      have hs22 : w17.cell? ⟨gb1050, 3, none⟩ = some (.int .i64 0) := (blk_cell BK1050.out 3).trans rfl
      have hfs22 := blk_frozen BK1050.out 3
      have hns22_1 := NB1057_1050.out
      have hms22_1 := NB1050_1057.out
      have hs23 : w17.cell? ⟨gb1050, 4, none⟩ = some (.int .i64 0) := (blk_cell BK1050.out 4).trans rfl
      have hfs23 := blk_frozen BK1050.out 4
      have hns23_1 := NB1057_1050.out
      have hms23_1 := NB1050_1057.out
      refine skip_ (w1 := ?_) (by rfl) rfl ?_ ?_
      rotate_left
      · go_simp
        rfl
      refine hK.out _ _ ⟨((cell_far (p := ⟨gb1050, _, none⟩) NB1057_1050.out _).trans (((cell_far (p := ⟨gb1050, _, none⟩) NB1057_1050.out _).trans (((cell_far (p := ⟨gb1050, _, none⟩) NB1057_1050.out _).trans (((cell_far (p := ⟨gb1050, _, none⟩) NB1057_1050.out _).trans (((cell_far (p := ⟨gb1050, _, none⟩) NB1057_1050.out _).trans (hHeld.1)))))))))), ((cell_far (p := ⟨gb1050, _, none⟩) NB1057_1050.out _).trans (((cell_far (p := ⟨gb1050, _, none⟩) NB1057_1050.out _).trans (((cell_far (p := ⟨gb1050, _, none⟩) NB1057_1050.out _).trans (((cell_far (p := ⟨gb1050, _, none⟩) NB1057_1050.out _).trans (((cell_far (p := ⟨gb1050, _, none⟩) NB1057_1050.out _).trans (hHeld.2))))))))))⟩ (fun hHeld => ?_)
      clear hK K
      refine done_ (done_of HT_.out (by kernel_rfl)) ?_
      try go_wp2
      refine bodyPost_ret (results_cell_row rfl _ _ gb1050 77 #[.slice Ao18 y1061.length co18, .int .i64 (t1051.length : Int), .bool t1054, .int .i64 t1055, .int .i64 t1056] (0, 0) _ rfl (by (with_reducible repeat (first | refine blk_drewN ?_ _ | refine blk_drew ?_ | refine blk_alloc ?_ _)); refine blk_put (cs := #[.slice Ao18 y1061.length co18, .int .i64 (t1051.length : Int), .bool t1054, .int .i64 t1055, .int .i64 0]) ?_ 4 _ rfl; (with_reducible repeat (first | refine blk_drewN ?_ _ | refine blk_drew ?_ | refine blk_alloc ?_ _)); refine blk_put (cs := #[.slice Ao18 y1061.length co18, .int .i64 (t1051.length : Int), .bool t1054, .int .i64 0, .int .i64 0]) ?_ 3 _ rfl; (with_reducible repeat (first | refine blk_drewN ?_ _ | refine blk_drew ?_ | refine blk_alloc ?_ _)); refine blk_put (cs := #[.slice Ao18 y1061.length co18, .int .i64 (t1051.length : Int), .bool false, .int .i64 0, .int .i64 0]) ?_ 2 _ rfl; (with_reducible repeat (first | refine blk_drewN ?_ _ | refine blk_drew ?_ | refine blk_alloc ?_ _)); refine blk_put (cs := #[.slice Ao18 y1061.length co18, .int .i64 0, .bool false, .int .i64 0, .int .i64 0]) ?_ 1 _ rfl; (with_reducible repeat (first | refine blk_drewN ?_ _ | refine blk_drew ?_ | refine blk_alloc ?_ _)); refine blk_put (cs := #[.slice none 0 0, .int .i64 0, .bool false, .int .i64 0, .int .i64 0]) ?_ 0 _ rfl; (with_reducible repeat (first | refine blk_drewN ?_ _ | refine blk_drew ?_ | refine blk_alloc ?_ _)); exact BK1050.out) Try.underlying77 rfl (by kernel_rfl)) rfl ?_
      exact ⟨_, by first | rfl | (simp [errW_none, errW_some] <;> rfl) | (simp [*, errW_none, errW_some] <;> rfl), by (with_reducible repeat (first | apply Kd.R_alloc | apply Kd.R_drewN | apply Kd.R_drew)); exact Kd.R_mono (Kd.R_far (p := ⟨gb1050, 4, none⟩) (Kd.R_far (p := ⟨gb1050, 3, none⟩) (Kd.R_far (p := ⟨gb1050, 2, none⟩) (Kd.R_far (p := ⟨gb1050, 1, none⟩) (Kd.R_far (p := ⟨gb1050, 0, none⟩) (Kd.R_types HO1063.out BK1050.out (by decide)) (fun _ hk => hk.2) (.slice Ao18 y1061.length co18)) (fun _ hk => hk.2) (.int .i64 (t1051.length : Int))) (fun _ hk => hk.2) (.bool t1054)) (fun _ hk => hk.2) (.int .i64 t1055)) (fun _ hk => hk.2) (.int .i64 t1056)) (fun _ hk => trivial), by repeat (first | (with_reducible first | exact HB.out | apply below_alloc | apply pw_below_drewN | apply below_drew1 | refine below_set ?_ GE1050.out | refine below_set ?_ GE1057.out) | exact HB.out)⟩
    · rw [if_neg c6] at H
      exact absurd H (by simp)

theorem spec_l20Tell.ev (l : List Int) (hb : isB l = true) (hl : l.length ≤ 60000) : Ev (fun k => spec_l20Tell.f k l) (l, (feedM l).1, (feedM l).2.1, (feedM l).2.2.1, (feedM l).2.2.2) := by
  unfold spec_l20Tell.f feedM
  rw [if_neg (by omega)]
  refine Ev.ng (by omega) (Ev.bind (soFar_spec l (isB_all hb) (by omega)) (Ev.bind (Ev.c rfl) (Ev.ip (by simp; omega) (Ev.eq (Ev.now _) (by simp)))))

end Go.Proofs.Ytcjjmfpkhhdmlaa.G
