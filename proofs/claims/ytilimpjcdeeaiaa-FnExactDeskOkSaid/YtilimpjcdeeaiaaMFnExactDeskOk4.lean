import Derived.Test.YtilimpjcdeeaiaaMFnExactDeskOk3
set_option linter.unusedVariables false
set_option linter.unusedSimpArgs false
namespace Go.Proofs.Ytilimpjcdeeaiaa.G
open Go.RowKit Go.Proofs.YtilimpjcdeeaiaaW.PrintWords Go.Proofs.YtilimpjcdeeaiaaW.PrintLast Go.Proofs.YtilimpjcdeeaiaaW.PrintMore
attribute [local go_sem] max2_int min2_int max_two min_two max_three min_three max_four min_four   -- for this text's walks alone
attribute [local go_sem high] eqA82
def spec_FeedOk.f (k : Nat) (l0_0 : List Int) (a0_1 : Int) (a0_2 : Bool) (a0_3 : Int) (a0_4 : Int) : Option (Bool) := if a0_3 = 1 then (if a0_4 = 0 then (if (l0_0.length : Int) = 0 then (if a0_1 = 0 then (some (!a0_2)) else (some false)) else (some false)) else (some false)) else (if (l0_0.length : Int) > 60000 then (some false) else ((spec_l20Tell.f k l0_0).bind fun bt1199 => (if bt1199.2.1 = a0_1 then (if (bt1199.2.2.1 == a0_2) = true then (some (bt1199.2.2.2.1 == a0_3 && (bt1199.2.2.2.2 == a0_4))) else (some false)) else (some false))))
theorem spec_FeedOk.mono : ∀ a0 a1 a2 a3 a4 k, LeO (spec_FeedOk.f k a0 a1 a2 a3 a4) (spec_FeedOk.f (k + 1) a0 a1 a2 a3 a4) := by
 intro a0 a1 a2 a3 a4 k
 unfold spec_FeedOk.f
 repeat' first
   | (with_reducible exact spec_l20Tell.mono _ _)
   | (with_reducible exact LeO.refl _)
   | (with_reducible exact LeO.none _)
   | (with_reducible refine LeO.ite ?_ ?_)
   | (with_reducible refine LeO.bind ?_ (fun _ => ?_))
   | exact spec_l20Tell.mono _ _
   | exact LeO.none _
   | refine LeO.ite ?_ ?_
   | refine LeO.bind ?_ (fun _ => ?_)
set_option maxHeartbeats 8000000 in
set_option maxRecDepth 100000 in
theorem spec_FeedOk.calls (k : Nat) (A0_0 : Option Addr) (c0_0 : Nat) (l0_0 : List Int) (a0_1 : Int) (a0_2 : Bool) (a0_3 : Int) (a0_4 : Int) (r : Bool) (w : World) (hr0_0 : Kd.C (Kd.int .u8) w A0_0 l0_0.length l0_0) (hc0_0 : l0_0.length ≤ c0_0) (h : spec_FeedOk.f k l0_0 a0_1 a0_2 a0_3 a0_4 = some r) :
  Calls Try.prog 94 #[.agg #[.slice A0_0 l0_0.length c0_0, .int .i64 a0_1, .bool a0_2, .int .i64 a0_3, .int .i64 a0_4]] w fun e w' => e = .returned (.bool r) ∧ Below w.heap.size w w' := by
 have hu84 := Try.underlying84
 have hu82 := Try.underlying82
 have HR0_0 := zA hr0_0
 have HC0_0 := zA hc0_0
 clear hr0_0 hc0_0
 have HB := zA (Below.refl w.heap.size w)
 have H : (if a0_3 = 1 then (if a0_4 = 0 then (if (l0_0.length : Int) = 0 then (if a0_1 = 0 then (some (!a0_2)) else (some false)) else (some false)) else (some false)) else (if (l0_0.length : Int) > 60000 then (some false) else ((spec_l20Tell.f k l0_0).bind fun bt1199 => (if bt1199.2.1 = a0_1 then (if (bt1199.2.2.1 == a0_2) = true then (some (bt1199.2.2.2.1 == a0_3 && (bt1199.2.2.2.2 == a0_4))) else (some false)) else (some false))))) = some r := h
 clear h
 by_cases c2 : a0_3 = 1
 ·rw [if_pos c2] at H
  have c2b0 : (a0_3 == 1) = true := beq_iff_eq.mpr c2
  have c2b1 : (a0_3 != 1) = false := bne_eq_false_iff_eq.mpr c2
  clear c2
  by_cases c3 : a0_4 = 0
  ·rw [if_pos c3] at H
   have c3b0 : (a0_4 == 0) = true := beq_iff_eq.mpr c3
   have c3b1 : (a0_4 != 0) = false := bne_eq_false_iff_eq.mpr c3
   clear c3
   by_cases c4 : (l0_0.length : Int) = 0
   ·rw [if_pos c4] at H
    have c4b0 : ((l0_0.length : Int) == 0) = true := beq_iff_eq.mpr c4
    have c4b1 : ((l0_0.length : Int) != 0) = false := bne_eq_false_iff_eq.mpr c4
    clear c4
    by_cases c5 : a0_1 = 0
    ·rw [if_pos c5] at H
     have c5b0 : (a0_1 == 0) = true := beq_iff_eq.mpr c5
     have c5b1 : (a0_1 != 0) = false := bne_eq_false_iff_eq.mpr c5
     clear c5
     obtain rfl := Option.some.inj H
     go_enter Try.func94, Try.ntmps94
     go_wp2_with (first | ((with_reducible refine gate_dst (N := 1) rfl ?_); (try (refine gate_guard (by rfl) ?_; dsimp only)); refine box_event ?hg (N := 1) ?hd (cs := #[.slice A0_0 l0_0.length c0_0, .int .i64 a0_1, .bool a0_2, .int .i64 a0_3, .int .i64 a0_4]) (t := 84) ?hr ?_; (case hd => rfl); (case hg => rfl); (case hr => first | (go_simp; done) | (go_simp; rfl)); intro gb1198 hg w6 hbox hb; have n0_ := zA (below_step (by repeat (first | (with_reducible first | exact HB.out | apply zC | apply zB | apply zF) | exact HB.out)) hb); have n1_ := zA (hbox); have n2_ := zA ((by rw [hg]; exact (zL (by repeat (first | (with_reducible first | exact HB.out | apply zC | apply zB | apply zF) | exact HB.out))) : w.heap.size ≤ gb1198)); have n3_ := zA ((by rw [hg]; exact (zL (by repeat (first | (with_reducible first | exact HB.out | apply zC | apply zB | apply zF) | exact HB.out))) : w.heap.size ≤ gb1198)); clear HB; have HB := n0_; have BK1198 := n1_; have GW1198 := n2_; have GE1198 := n3_; clear n0_ n1_ n2_ n3_; clear hb hbox hg; have hcz7_0 : w6.cell? ⟨gb1198, 0, none⟩ = some (.slice A0_0 l0_0.length c0_0) := (zK BK1198.out 0).trans rfl; have hcz7_1 : w6.cell? ⟨gb1198, 1, none⟩ = some (.int .i64 a0_1) := (zK BK1198.out 1).trans rfl; have hcz7_2 : w6.cell? ⟨gb1198, 2, none⟩ = some (.bool a0_2) := (zK BK1198.out 2).trans rfl; have hcz7_3 : w6.cell? ⟨gb1198, 3, none⟩ = some (.int .i64 a0_3) := (zK BK1198.out 3).trans rfl; have hcz7_4 : w6.cell? ⟨gb1198, 4, none⟩ = some (.int .i64 a0_4) := (zK BK1198.out 4).trans rfl; have hfz7_0 := zJ BK1198.out 0; have hfz7_1 := zJ BK1198.out 1; have hfz7_2 := zJ BK1198.out 2; have hfz7_3 := zJ BK1198.out 3; have hfz7_4 := zJ BK1198.out 4))
     go_ret
     exact ⟨by first | rfl | (simp [errW_none, errW_some] <;> rfl) | (simp [*, errW_none, errW_some] <;> rfl), by repeat (first | (with_reducible first | exact HB.out | apply zC | apply zB | apply zF | refine zE ?_ GE1198.out) | exact HB.out)⟩
    ·rw [if_neg c5] at H
     have c5b0 : (a0_1 == 0) = false := beq_eq_false_iff_ne.mpr c5
     have c5b1 : (a0_1 != 0) = true := bne_iff_ne.mpr c5
     obtain rfl := Option.some.inj H
     go_enter Try.func94, Try.ntmps94
     go_wp2_with (first | ((with_reducible refine gate_dst (N := 1) rfl ?_); (try (refine gate_guard (by rfl) ?_; dsimp only)); refine box_event ?hg (N := 1) ?hd (cs := #[.slice A0_0 l0_0.length c0_0, .int .i64 a0_1, .bool a0_2, .int .i64 a0_3, .int .i64 a0_4]) (t := 84) ?hr ?_; (case hd => rfl); (case hg => rfl); (case hr => first | (go_simp; done) | (go_simp; rfl)); intro gb1198 hg w8 hbox hb; have n0_ := zA (below_step (by repeat (first | (with_reducible first | exact HB.out | apply zC | apply zB | apply zF) | exact HB.out)) hb); have n1_ := zA (hbox); have n2_ := zA ((by rw [hg]; exact (zL (by repeat (first | (with_reducible first | exact HB.out | apply zC | apply zB | apply zF) | exact HB.out))) : w.heap.size ≤ gb1198)); have n3_ := zA ((by rw [hg]; exact (zL (by repeat (first | (with_reducible first | exact HB.out | apply zC | apply zB | apply zF) | exact HB.out))) : w.heap.size ≤ gb1198)); clear HB; have HB := n0_; have BK1198 := n1_; have GW1198 := n2_; have GE1198 := n3_; clear n0_ n1_ n2_ n3_; clear hb hbox hg; have hcz9_0 : w8.cell? ⟨gb1198, 0, none⟩ = some (.slice A0_0 l0_0.length c0_0) := (zK BK1198.out 0).trans rfl; have hcz9_1 : w8.cell? ⟨gb1198, 1, none⟩ = some (.int .i64 a0_1) := (zK BK1198.out 1).trans rfl; have hcz9_2 : w8.cell? ⟨gb1198, 2, none⟩ = some (.bool a0_2) := (zK BK1198.out 2).trans rfl; have hcz9_3 : w8.cell? ⟨gb1198, 3, none⟩ = some (.int .i64 a0_3) := (zK BK1198.out 3).trans rfl; have hcz9_4 : w8.cell? ⟨gb1198, 4, none⟩ = some (.int .i64 a0_4) := (zK BK1198.out 4).trans rfl; have hfz9_0 := zJ BK1198.out 0; have hfz9_1 := zJ BK1198.out 1; have hfz9_2 := zJ BK1198.out 2; have hfz9_3 := zJ BK1198.out 3; have hfz9_4 := zJ BK1198.out 4))
     go_ret
     exact ⟨by first | rfl | (simp [errW_none, errW_some] <;> rfl) | (simp [*, errW_none, errW_some] <;> rfl), by repeat (first | (with_reducible first | exact HB.out | apply zC | apply zB | apply zF | refine zE ?_ GE1198.out) | exact HB.out)⟩
   ·rw [if_neg c4] at H
    have c4b0 : ((l0_0.length : Int) == 0) = false := beq_eq_false_iff_ne.mpr c4
    have c4b1 : ((l0_0.length : Int) != 0) = true := bne_iff_ne.mpr c4
    have c4b2 : ¬ (l0_0 = []) := fun h_ => c4 (by rw [h_]; rfl)
    obtain rfl := Option.some.inj H
    go_enter Try.func94, Try.ntmps94
    go_wp2_with (first | ((with_reducible refine gate_dst (N := 1) rfl ?_); (try (refine gate_guard (by rfl) ?_; dsimp only)); refine box_event ?hg (N := 1) ?hd (cs := #[.slice A0_0 l0_0.length c0_0, .int .i64 a0_1, .bool a0_2, .int .i64 a0_3, .int .i64 a0_4]) (t := 84) ?hr ?_; (case hd => rfl); (case hg => rfl); (case hr => first | (go_simp; done) | (go_simp; rfl)); intro gb1198 hg w10 hbox hb; have n0_ := zA (below_step (by repeat (first | (with_reducible first | exact HB.out | apply zC | apply zB | apply zF) | exact HB.out)) hb); have n1_ := zA (hbox); have n2_ := zA ((by rw [hg]; exact (zL (by repeat (first | (with_reducible first | exact HB.out | apply zC | apply zB | apply zF) | exact HB.out))) : w.heap.size ≤ gb1198)); have n3_ := zA ((by rw [hg]; exact (zL (by repeat (first | (with_reducible first | exact HB.out | apply zC | apply zB | apply zF) | exact HB.out))) : w.heap.size ≤ gb1198)); clear HB; have HB := n0_; have BK1198 := n1_; have GW1198 := n2_; have GE1198 := n3_; clear n0_ n1_ n2_ n3_; clear hb hbox hg; have hcz11_0 : w10.cell? ⟨gb1198, 0, none⟩ = some (.slice A0_0 l0_0.length c0_0) := (zK BK1198.out 0).trans rfl; have hcz11_1 : w10.cell? ⟨gb1198, 1, none⟩ = some (.int .i64 a0_1) := (zK BK1198.out 1).trans rfl; have hcz11_2 : w10.cell? ⟨gb1198, 2, none⟩ = some (.bool a0_2) := (zK BK1198.out 2).trans rfl; have hcz11_3 : w10.cell? ⟨gb1198, 3, none⟩ = some (.int .i64 a0_3) := (zK BK1198.out 3).trans rfl; have hcz11_4 : w10.cell? ⟨gb1198, 4, none⟩ = some (.int .i64 a0_4) := (zK BK1198.out 4).trans rfl; have hfz11_0 := zJ BK1198.out 0; have hfz11_1 := zJ BK1198.out 1; have hfz11_2 := zJ BK1198.out 2; have hfz11_3 := zJ BK1198.out 3; have hfz11_4 := zJ BK1198.out 4))
    go_ret
    exact ⟨by first | rfl | (simp [errW_none, errW_some] <;> rfl) | (simp [*, errW_none, errW_some] <;> rfl), by repeat (first | (with_reducible first | exact HB.out | apply zC | apply zB | apply zF | refine zE ?_ GE1198.out) | exact HB.out)⟩
  ·rw [if_neg c3] at H
   have c3b0 : (a0_4 == 0) = false := beq_eq_false_iff_ne.mpr c3
   have c3b1 : (a0_4 != 0) = true := bne_iff_ne.mpr c3
   obtain rfl := Option.some.inj H
   go_enter Try.func94, Try.ntmps94
   go_wp2_with (first | ((with_reducible refine gate_dst (N := 1) rfl ?_); (try (refine gate_guard (by rfl) ?_; dsimp only)); refine box_event ?hg (N := 1) ?hd (cs := #[.slice A0_0 l0_0.length c0_0, .int .i64 a0_1, .bool a0_2, .int .i64 a0_3, .int .i64 a0_4]) (t := 84) ?hr ?_; (case hd => rfl); (case hg => rfl); (case hr => first | (go_simp; done) | (go_simp; rfl)); intro gb1198 hg w12 hbox hb; have n0_ := zA (below_step (by repeat (first | (with_reducible first | exact HB.out | apply zC | apply zB | apply zF) | exact HB.out)) hb); have n1_ := zA (hbox); have n2_ := zA ((by rw [hg]; exact (zL (by repeat (first | (with_reducible first | exact HB.out | apply zC | apply zB | apply zF) | exact HB.out))) : w.heap.size ≤ gb1198)); have n3_ := zA ((by rw [hg]; exact (zL (by repeat (first | (with_reducible first | exact HB.out | apply zC | apply zB | apply zF) | exact HB.out))) : w.heap.size ≤ gb1198)); clear HB; have HB := n0_; have BK1198 := n1_; have GW1198 := n2_; have GE1198 := n3_; clear n0_ n1_ n2_ n3_; clear hb hbox hg; have hcz13_0 : w12.cell? ⟨gb1198, 0, none⟩ = some (.slice A0_0 l0_0.length c0_0) := (zK BK1198.out 0).trans rfl; have hcz13_1 : w12.cell? ⟨gb1198, 1, none⟩ = some (.int .i64 a0_1) := (zK BK1198.out 1).trans rfl; have hcz13_2 : w12.cell? ⟨gb1198, 2, none⟩ = some (.bool a0_2) := (zK BK1198.out 2).trans rfl; have hcz13_3 : w12.cell? ⟨gb1198, 3, none⟩ = some (.int .i64 a0_3) := (zK BK1198.out 3).trans rfl; have hcz13_4 : w12.cell? ⟨gb1198, 4, none⟩ = some (.int .i64 a0_4) := (zK BK1198.out 4).trans rfl; have hfz13_0 := zJ BK1198.out 0; have hfz13_1 := zJ BK1198.out 1; have hfz13_2 := zJ BK1198.out 2; have hfz13_3 := zJ BK1198.out 3; have hfz13_4 := zJ BK1198.out 4))
   go_ret
   exact ⟨by first | rfl | (simp [errW_none, errW_some] <;> rfl) | (simp [*, errW_none, errW_some] <;> rfl), by repeat (first | (with_reducible first | exact HB.out | apply zC | apply zB | apply zF | refine zE ?_ GE1198.out) | exact HB.out)⟩
 ·rw [if_neg c2] at H
  have c2b0 : (a0_3 == 1) = false := beq_eq_false_iff_ne.mpr c2
  have c2b1 : (a0_3 != 1) = true := bne_iff_ne.mpr c2
  by_cases c14 : (l0_0.length : Int) > 60000
  ·rw [if_pos c14] at H
   have c14b0 : decide (60000 < (l0_0.length : Int)) = true := zT c14
   have c14b1 : decide (60000 < l0_0.length) = true := zT (by omega)
   clear c14
   obtain rfl := Option.some.inj H
   go_enter Try.func94, Try.ntmps94
   go_wp2_with (first | ((with_reducible refine gate_dst (N := 1) rfl ?_); (try (refine gate_guard (by rfl) ?_; dsimp only)); refine box_event ?hg (N := 1) ?hd (cs := #[.slice A0_0 l0_0.length c0_0, .int .i64 a0_1, .bool a0_2, .int .i64 a0_3, .int .i64 a0_4]) (t := 84) ?hr ?_; (case hd => rfl); (case hg => rfl); (case hr => first | (go_simp; done) | (go_simp; rfl)); intro gb1198 hg w15 hbox hb; have n0_ := zA (below_step (by repeat (first | (with_reducible first | exact HB.out | apply zC | apply zB | apply zF) | exact HB.out)) hb); have n1_ := zA (hbox); have n2_ := zA ((by rw [hg]; exact (zL (by repeat (first | (with_reducible first | exact HB.out | apply zC | apply zB | apply zF) | exact HB.out))) : w.heap.size ≤ gb1198)); have n3_ := zA ((by rw [hg]; exact (zL (by repeat (first | (with_reducible first | exact HB.out | apply zC | apply zB | apply zF) | exact HB.out))) : w.heap.size ≤ gb1198)); clear HB; have HB := n0_; have BK1198 := n1_; have GW1198 := n2_; have GE1198 := n3_; clear n0_ n1_ n2_ n3_; clear hb hbox hg; have hcz16_0 : w15.cell? ⟨gb1198, 0, none⟩ = some (.slice A0_0 l0_0.length c0_0) := (zK BK1198.out 0).trans rfl; have hcz16_1 : w15.cell? ⟨gb1198, 1, none⟩ = some (.int .i64 a0_1) := (zK BK1198.out 1).trans rfl; have hcz16_2 : w15.cell? ⟨gb1198, 2, none⟩ = some (.bool a0_2) := (zK BK1198.out 2).trans rfl; have hcz16_3 : w15.cell? ⟨gb1198, 3, none⟩ = some (.int .i64 a0_3) := (zK BK1198.out 3).trans rfl; have hcz16_4 : w15.cell? ⟨gb1198, 4, none⟩ = some (.int .i64 a0_4) := (zK BK1198.out 4).trans rfl; have hfz16_0 := zJ BK1198.out 0; have hfz16_1 := zJ BK1198.out 1; have hfz16_2 := zJ BK1198.out 2; have hfz16_3 := zJ BK1198.out 3; have hfz16_4 := zJ BK1198.out 4))
   go_ret
   exact ⟨by first | rfl | (simp [errW_none, errW_some] <;> rfl) | (simp [*, errW_none, errW_some] <;> rfl), by repeat (first | (with_reducible first | exact HB.out | apply zC | apply zB | apply zF | refine zE ?_ GE1198.out) | exact HB.out)⟩
  ·rw [if_neg c14] at H
   have c14b0 : decide (60000 < (l0_0.length : Int)) = false := decide_eq_false c14
   have c14b1 : decide (60000 < l0_0.length) = false := decide_eq_false (by omega)
   clear c14
   replace H := Option.bind_eq_some_iff.mp H
   obtain ⟨⟨t1199, t1202, t1203, t1204, t1205⟩, A170, H⟩ := H
   replace H : (if t1202 = a0_1 then (if (t1203 == a0_2) = true then (some (t1204 == a0_3 && (t1205 == a0_4))) else (some false)) else (some false)) = some r := H
   have A17 := zA A170
   clear A170
   by_cases c18 : t1202 = a0_1
   ·rw [if_pos c18] at H
    have c18b0 : (t1202 == a0_1) = true := beq_iff_eq.mpr c18
    have c18b1 : (t1202 != a0_1) = false := bne_eq_false_iff_eq.mpr c18
    clear c18
    by_cases c19 : (t1203 == a0_2) = true
    ·rw [if_pos c19] at H
     have c19b0 : (t1203 == a0_2) = true := c19
     (try (have c19b1 : decide (t1203 = a0_2) = true := by simpa using c19))
     (try (have c19b2 : (t1203 == a0_2) = true := by simpa using c19))
     clear c19
     obtain rfl := Option.some.inj H
     go_enter Try.func94, Try.ntmps94
     go_wp2_with (first | ((with_reducible refine gate_dst (N := 1) rfl ?_); (try (refine gate_guard (by rfl) ?_; dsimp only)); refine box_event ?hg (N := 1) ?hd (cs := #[.slice A0_0 l0_0.length c0_0, .int .i64 a0_1, .bool a0_2, .int .i64 a0_3, .int .i64 a0_4]) (t := 84) ?hr ?_; (case hd => rfl); (case hg => rfl); (case hr => first | (go_simp; done) | (go_simp; rfl)); intro gb1198 hg w20 hbox hb; have n0_ := zA (below_step (by repeat (first | (with_reducible first | exact HB.out | apply zC | apply zB | apply zF) | exact HB.out)) hb); have n1_ := zA (hbox); have n2_ := zA ((by rw [hg]; exact (zL (by repeat (first | (with_reducible first | exact HB.out | apply zC | apply zB | apply zF) | exact HB.out))) : w.heap.size ≤ gb1198)); have n3_ := zA ((by rw [hg]; exact (zL (by repeat (first | (with_reducible first | exact HB.out | apply zC | apply zB | apply zF) | exact HB.out))) : w.heap.size ≤ gb1198)); clear HB; have HB := n0_; have BK1198 := n1_; have GW1198 := n2_; have GE1198 := n3_; clear n0_ n1_ n2_ n3_; clear hb hbox hg; have hcz21_0 : w20.cell? ⟨gb1198, 0, none⟩ = some (.slice A0_0 l0_0.length c0_0) := (zK BK1198.out 0).trans rfl; have hcz21_1 : w20.cell? ⟨gb1198, 1, none⟩ = some (.int .i64 a0_1) := (zK BK1198.out 1).trans rfl; have hcz21_2 : w20.cell? ⟨gb1198, 2, none⟩ = some (.bool a0_2) := (zK BK1198.out 2).trans rfl; have hcz21_3 : w20.cell? ⟨gb1198, 3, none⟩ = some (.int .i64 a0_3) := (zK BK1198.out 3).trans rfl; have hcz21_4 : w20.cell? ⟨gb1198, 4, none⟩ = some (.int .i64 a0_4) := (zK BK1198.out 4).trans rfl; have hfz21_0 := zJ BK1198.out 0; have hfz21_1 := zJ BK1198.out 1; have hfz21_2 := zJ BK1198.out 2; have hfz21_3 := zJ BK1198.out 3; have hfz21_4 := zJ BK1198.out 4) | ((with_reducible refine gate_callee (f := 134) rfl ?_); refine goesL_ (some 34) rfl rfl Try.func134 (by kernel_rfl) rfl #[.slice A0_0 l0_0.length c0_0] rfl (by (try simp only [zU, zV, zW]); first | done | rfl | (simp only [zR, zQ]; rfl)) ?_; (with_reducible refine (spec_l20Tell.calls k _ _ l0_0 t1199 t1202 t1203 t1204 t1205 _ ?side1 ?side2 A17.out).mono ?_); (case side1 => repeat (first | exact (Kd.C_below HR0_0.out HB.out) | (with_reducible refine yH ?_ _) | (with_reducible refine yF ?_ _) | (with_reducible refine yG ?_))); (case side2 => exact HC0_0.out); rintro e w22 ⟨v1200, rfl, ho0, hb⟩; refine ⟨_, rfl, ?_⟩; have n0_ := zA (Kd.R_lower ho0 (zL (by repeat (first | (with_reducible first | exact HB.out | apply zC | apply zB | apply zF | refine zE ?_ GE1198.out) | exact HB.out)))); have n1_ := zA (blk_below (g := gb1198) (o := .cells #[.slice A0_0 l0_0.length c0_0, .int .i64 a0_1, .bool a0_2, .int .i64 a0_3, .int .i64 a0_4] 84 (0, 0)) (by (with_reducible repeat (first | refine zG ?_ _ | refine zH ?_ | refine zD ?_ _)); exact BK1198.out) hb); have n2_ := zA (below_step (by repeat (first | (with_reducible first | exact HB.out | apply zC | apply zB | apply zF | refine zE ?_ GE1198.out) | exact HB.out)) hb); clear BK1198; clear HB; have HO1201 := n0_; have BK1198 := n1_; have HB := n2_; clear n0_ n1_ n2_; (try clear hb); (try clear hb2); (try clear hk); (try clear hi); (try clear ho0)) | ((with_reducible refine gate_dst (N := 3) rfl ?_); (try (refine gate_guard (by rfl) ?_; dsimp only)); refine box_event ?hg (N := 3) ?hd (cs := #[.slice none 0 0, .int .i64 0, .bool false, .int .i64 0, .int .i64 0]) (t := 84) ?hr ?_; (case hd => rfl); (case hg => rfl); (case hr => first | (go_simp; done) | (go_simp; rfl)); intro gb1206 hg w23 hbox hb; have n0_ := zA (Kd.R_below (by (with_reducible repeat (first | apply zN | apply zM | apply zO)); exact HO1201.out) hb); have n1_ := zA (blk_below (g := gb1198) (o := .cells #[.slice A0_0 l0_0.length c0_0, .int .i64 a0_1, .bool a0_2, .int .i64 a0_3, .int .i64 a0_4] 84 (0, 0)) (by (with_reducible repeat (first | refine zG ?_ _ | refine zH ?_ | refine zD ?_ _)); exact BK1198.out) hb); have n2_ := zA (below_step (by repeat (first | (with_reducible first | exact HB.out | apply zC | apply zB | apply zF | refine zE ?_ GE1198.out) | exact HB.out)) hb); have n3_ := zA (hbox); have n4_ := zA ((by rw [hg]; exact (zL (by repeat (first | (with_reducible first | exact HB.out | apply zC | apply zB | apply zF | refine zE ?_ GE1198.out) | exact HB.out))) : w.heap.size ≤ gb1206)); have n5_ := zA ((by rw [hg]; exact (zL (by repeat (first | (with_reducible first | exact HB.out | apply zC | apply zB | apply zF | refine zE ?_ GE1198.out) | exact HB.out))) : w.heap.size ≤ gb1206)); have n6_ := zA ((by rw [hg]; exact Nat.ne_of_lt (blk_lt (g := gb1198) (o := .cells #[.slice A0_0 l0_0.length c0_0, .int .i64 a0_1, .bool a0_2, .int .i64 a0_3, .int .i64 a0_4] 84 (0, 0)) (by (with_reducible repeat (first | refine zG ?_ _ | refine zH ?_ | refine zD ?_ _)); exact BK1198.out)) : gb1198 ≠ gb1206)); have n7_ := zA ((by rw [hg]; exact Nat.ne_of_gt (blk_lt (g := gb1198) (o := .cells #[.slice A0_0 l0_0.length c0_0, .int .i64 a0_1, .bool a0_2, .int .i64 a0_3, .int .i64 a0_4] 84 (0, 0)) (by (with_reducible repeat (first | refine zG ?_ _ | refine zH ?_ | refine zD ?_ _)); exact BK1198.out)) : gb1206 ≠ gb1198)); clear HO1201; clear BK1198; clear HB; have HO1201 := n0_; have BK1198 := n1_; have HB := n2_; have BK1206 := n3_; have GW1206 := n4_; have GE1206 := n5_; have NB1198_1206 := n6_; have NB1206_1198 := n7_; clear n0_ n1_ n2_ n3_ n4_ n5_ n6_ n7_; clear hb hbox hg; obtain ⟨Ao24, co24, eo24⟩ := Kd.R_slice HO1201.out; subst eo24; have hnb25 := NB1206_1198.out; have hnc25 := NB1198_1206.out; have hcz26_0 : w23.cell? ⟨gb1206, 0, none⟩ = some (.slice none 0 0) := (zK BK1206.out 0).trans rfl; have hcz26_1 : w23.cell? ⟨gb1206, 1, none⟩ = some (.int .i64 0) := (zK BK1206.out 1).trans rfl; have hcz26_2 : w23.cell? ⟨gb1206, 2, none⟩ = some (.bool false) := (zK BK1206.out 2).trans rfl; have hcz26_3 : w23.cell? ⟨gb1206, 3, none⟩ = some (.int .i64 0) := (zK BK1206.out 3).trans rfl; have hcz26_4 : w23.cell? ⟨gb1206, 4, none⟩ = some (.int .i64 0) := (zK BK1206.out 4).trans rfl; have hfz26_0 := zJ BK1206.out 0; have hfz26_1 := zJ BK1206.out 1; have hfz26_2 := zJ BK1206.out 2; have hfz26_3 := zJ BK1206.out 3; have hfz26_4 := zJ BK1206.out 4; have hcz27_0 : w23.cell? ⟨gb1198, 0, none⟩ = some (.slice A0_0 l0_0.length c0_0) := (zK BK1198.out 0).trans rfl; have hcz27_1 : w23.cell? ⟨gb1198, 1, none⟩ = some (.int .i64 a0_1) := (zK BK1198.out 1).trans rfl; have hcz27_2 : w23.cell? ⟨gb1198, 2, none⟩ = some (.bool a0_2) := (zK BK1198.out 2).trans rfl; have hcz27_3 : w23.cell? ⟨gb1198, 3, none⟩ = some (.int .i64 a0_3) := (zK BK1198.out 3).trans rfl; have hcz27_4 : w23.cell? ⟨gb1198, 4, none⟩ = some (.int .i64 a0_4) := (zK BK1198.out 4).trans rfl; have hfz27_0 := zJ BK1198.out 0; have hfz27_1 := zJ BK1198.out 1; have hfz27_2 := zJ BK1198.out 2; have hfz27_3 := zJ BK1198.out 3; have hfz27_4 := zJ BK1198.out 4))
     go_ret
     exact ⟨by first | rfl | (simp [errW_none, errW_some] <;> rfl) | (simp [*, errW_none, errW_some] <;> rfl), by repeat (first | (with_reducible first | exact HB.out | apply zC | apply zB | apply zF | refine zE ?_ GE1198.out | refine zE ?_ GE1206.out) | exact HB.out)⟩
    ·rw [if_neg c19] at H
     have c19b0 : (t1203 == a0_2) = false := by simpa using c19
     (try (have c19b1 : decide (t1203 = a0_2) = false := by simpa using c19))
     (try (have c19b2 : (t1203 == a0_2) = false := by simpa using c19))
     (try (have c19b3 : ¬ (t1203 = a0_2) := by simpa using c19))
     clear c19
     obtain rfl := Option.some.inj H
     go_enter Try.func94, Try.ntmps94
     go_wp2_with (first | ((with_reducible refine gate_dst (N := 1) rfl ?_); (try (refine gate_guard (by rfl) ?_; dsimp only)); refine box_event ?hg (N := 1) ?hd (cs := #[.slice A0_0 l0_0.length c0_0, .int .i64 a0_1, .bool a0_2, .int .i64 a0_3, .int .i64 a0_4]) (t := 84) ?hr ?_; (case hd => rfl); (case hg => rfl); (case hr => first | (go_simp; done) | (go_simp; rfl)); intro gb1198 hg w28 hbox hb; have n0_ := zA (below_step (by repeat (first | (with_reducible first | exact HB.out | apply zC | apply zB | apply zF) | exact HB.out)) hb); have n1_ := zA (hbox); have n2_ := zA ((by rw [hg]; exact (zL (by repeat (first | (with_reducible first | exact HB.out | apply zC | apply zB | apply zF) | exact HB.out))) : w.heap.size ≤ gb1198)); have n3_ := zA ((by rw [hg]; exact (zL (by repeat (first | (with_reducible first | exact HB.out | apply zC | apply zB | apply zF) | exact HB.out))) : w.heap.size ≤ gb1198)); clear HB; have HB := n0_; have BK1198 := n1_; have GW1198 := n2_; have GE1198 := n3_; clear n0_ n1_ n2_ n3_; clear hb hbox hg; have hcz29_0 : w28.cell? ⟨gb1198, 0, none⟩ = some (.slice A0_0 l0_0.length c0_0) := (zK BK1198.out 0).trans rfl; have hcz29_1 : w28.cell? ⟨gb1198, 1, none⟩ = some (.int .i64 a0_1) := (zK BK1198.out 1).trans rfl; have hcz29_2 : w28.cell? ⟨gb1198, 2, none⟩ = some (.bool a0_2) := (zK BK1198.out 2).trans rfl; have hcz29_3 : w28.cell? ⟨gb1198, 3, none⟩ = some (.int .i64 a0_3) := (zK BK1198.out 3).trans rfl; have hcz29_4 : w28.cell? ⟨gb1198, 4, none⟩ = some (.int .i64 a0_4) := (zK BK1198.out 4).trans rfl; have hfz29_0 := zJ BK1198.out 0; have hfz29_1 := zJ BK1198.out 1; have hfz29_2 := zJ BK1198.out 2; have hfz29_3 := zJ BK1198.out 3; have hfz29_4 := zJ BK1198.out 4) | ((with_reducible refine gate_callee (f := 134) rfl ?_); refine goesL_ (some 34) rfl rfl Try.func134 (by kernel_rfl) rfl #[.slice A0_0 l0_0.length c0_0] rfl (by (try simp only [zU, zV, zW]); first | done | rfl | (simp only [zR, zQ]; rfl)) ?_; (with_reducible refine (spec_l20Tell.calls k _ _ l0_0 t1199 t1202 t1203 t1204 t1205 _ ?side1 ?side2 A17.out).mono ?_); (case side1 => repeat (first | exact (Kd.C_below HR0_0.out HB.out) | (with_reducible refine yH ?_ _) | (with_reducible refine yF ?_ _) | (with_reducible refine yG ?_))); (case side2 => exact HC0_0.out); rintro e w30 ⟨v1200, rfl, ho0, hb⟩; refine ⟨_, rfl, ?_⟩; have n0_ := zA (Kd.R_lower ho0 (zL (by repeat (first | (with_reducible first | exact HB.out | apply zC | apply zB | apply zF | refine zE ?_ GE1198.out) | exact HB.out)))); have n1_ := zA (blk_below (g := gb1198) (o := .cells #[.slice A0_0 l0_0.length c0_0, .int .i64 a0_1, .bool a0_2, .int .i64 a0_3, .int .i64 a0_4] 84 (0, 0)) (by (with_reducible repeat (first | refine zG ?_ _ | refine zH ?_ | refine zD ?_ _)); exact BK1198.out) hb); have n2_ := zA (below_step (by repeat (first | (with_reducible first | exact HB.out | apply zC | apply zB | apply zF | refine zE ?_ GE1198.out) | exact HB.out)) hb); clear BK1198; clear HB; have HO1201 := n0_; have BK1198 := n1_; have HB := n2_; clear n0_ n1_ n2_; (try clear hb); (try clear hb2); (try clear hk); (try clear hi); (try clear ho0)) | ((with_reducible refine gate_dst (N := 3) rfl ?_); (try (refine gate_guard (by rfl) ?_; dsimp only)); refine box_event ?hg (N := 3) ?hd (cs := #[.slice none 0 0, .int .i64 0, .bool false, .int .i64 0, .int .i64 0]) (t := 84) ?hr ?_; (case hd => rfl); (case hg => rfl); (case hr => first | (go_simp; done) | (go_simp; rfl)); intro gb1206 hg w31 hbox hb; have n0_ := zA (Kd.R_below (by (with_reducible repeat (first | apply zN | apply zM | apply zO)); exact HO1201.out) hb); have n1_ := zA (blk_below (g := gb1198) (o := .cells #[.slice A0_0 l0_0.length c0_0, .int .i64 a0_1, .bool a0_2, .int .i64 a0_3, .int .i64 a0_4] 84 (0, 0)) (by (with_reducible repeat (first | refine zG ?_ _ | refine zH ?_ | refine zD ?_ _)); exact BK1198.out) hb); have n2_ := zA (below_step (by repeat (first | (with_reducible first | exact HB.out | apply zC | apply zB | apply zF | refine zE ?_ GE1198.out) | exact HB.out)) hb); have n3_ := zA (hbox); have n4_ := zA ((by rw [hg]; exact (zL (by repeat (first | (with_reducible first | exact HB.out | apply zC | apply zB | apply zF | refine zE ?_ GE1198.out) | exact HB.out))) : w.heap.size ≤ gb1206)); have n5_ := zA ((by rw [hg]; exact (zL (by repeat (first | (with_reducible first | exact HB.out | apply zC | apply zB | apply zF | refine zE ?_ GE1198.out) | exact HB.out))) : w.heap.size ≤ gb1206)); have n6_ := zA ((by rw [hg]; exact Nat.ne_of_lt (blk_lt (g := gb1198) (o := .cells #[.slice A0_0 l0_0.length c0_0, .int .i64 a0_1, .bool a0_2, .int .i64 a0_3, .int .i64 a0_4] 84 (0, 0)) (by (with_reducible repeat (first | refine zG ?_ _ | refine zH ?_ | refine zD ?_ _)); exact BK1198.out)) : gb1198 ≠ gb1206)); have n7_ := zA ((by rw [hg]; exact Nat.ne_of_gt (blk_lt (g := gb1198) (o := .cells #[.slice A0_0 l0_0.length c0_0, .int .i64 a0_1, .bool a0_2, .int .i64 a0_3, .int .i64 a0_4] 84 (0, 0)) (by (with_reducible repeat (first | refine zG ?_ _ | refine zH ?_ | refine zD ?_ _)); exact BK1198.out)) : gb1206 ≠ gb1198)); clear HO1201; clear BK1198; clear HB; have HO1201 := n0_; have BK1198 := n1_; have HB := n2_; have BK1206 := n3_; have GW1206 := n4_; have GE1206 := n5_; have NB1198_1206 := n6_; have NB1206_1198 := n7_; clear n0_ n1_ n2_ n3_ n4_ n5_ n6_ n7_; clear hb hbox hg; obtain ⟨Ao32, co32, eo32⟩ := Kd.R_slice HO1201.out; subst eo32; have hnb33 := NB1206_1198.out; have hnc33 := NB1198_1206.out; have hcz34_0 : w31.cell? ⟨gb1206, 0, none⟩ = some (.slice none 0 0) := (zK BK1206.out 0).trans rfl; have hcz34_1 : w31.cell? ⟨gb1206, 1, none⟩ = some (.int .i64 0) := (zK BK1206.out 1).trans rfl; have hcz34_2 : w31.cell? ⟨gb1206, 2, none⟩ = some (.bool false) := (zK BK1206.out 2).trans rfl; have hcz34_3 : w31.cell? ⟨gb1206, 3, none⟩ = some (.int .i64 0) := (zK BK1206.out 3).trans rfl; have hcz34_4 : w31.cell? ⟨gb1206, 4, none⟩ = some (.int .i64 0) := (zK BK1206.out 4).trans rfl; have hfz34_0 := zJ BK1206.out 0; have hfz34_1 := zJ BK1206.out 1; have hfz34_2 := zJ BK1206.out 2; have hfz34_3 := zJ BK1206.out 3; have hfz34_4 := zJ BK1206.out 4; have hcz35_0 : w31.cell? ⟨gb1198, 0, none⟩ = some (.slice A0_0 l0_0.length c0_0) := (zK BK1198.out 0).trans rfl; have hcz35_1 : w31.cell? ⟨gb1198, 1, none⟩ = some (.int .i64 a0_1) := (zK BK1198.out 1).trans rfl; have hcz35_2 : w31.cell? ⟨gb1198, 2, none⟩ = some (.bool a0_2) := (zK BK1198.out 2).trans rfl; have hcz35_3 : w31.cell? ⟨gb1198, 3, none⟩ = some (.int .i64 a0_3) := (zK BK1198.out 3).trans rfl; have hcz35_4 : w31.cell? ⟨gb1198, 4, none⟩ = some (.int .i64 a0_4) := (zK BK1198.out 4).trans rfl; have hfz35_0 := zJ BK1198.out 0; have hfz35_1 := zJ BK1198.out 1; have hfz35_2 := zJ BK1198.out 2; have hfz35_3 := zJ BK1198.out 3; have hfz35_4 := zJ BK1198.out 4))
     go_ret
     exact ⟨by first | rfl | (simp [errW_none, errW_some] <;> rfl) | (simp [*, errW_none, errW_some] <;> rfl), by repeat (first | (with_reducible first | exact HB.out | apply zC | apply zB | apply zF | refine zE ?_ GE1198.out | refine zE ?_ GE1206.out) | exact HB.out)⟩
   ·rw [if_neg c18] at H
    have c18b0 : (t1202 == a0_1) = false := beq_eq_false_iff_ne.mpr c18
    have c18b1 : (t1202 != a0_1) = true := bne_iff_ne.mpr c18
    obtain rfl := Option.some.inj H
    go_enter Try.func94, Try.ntmps94
    go_wp2_with (first | ((with_reducible refine gate_dst (N := 1) rfl ?_); (try (refine gate_guard (by rfl) ?_; dsimp only)); refine box_event ?hg (N := 1) ?hd (cs := #[.slice A0_0 l0_0.length c0_0, .int .i64 a0_1, .bool a0_2, .int .i64 a0_3, .int .i64 a0_4]) (t := 84) ?hr ?_; (case hd => rfl); (case hg => rfl); (case hr => first | (go_simp; done) | (go_simp; rfl)); intro gb1198 hg w36 hbox hb; have n0_ := zA (below_step (by repeat (first | (with_reducible first | exact HB.out | apply zC | apply zB | apply zF) | exact HB.out)) hb); have n1_ := zA (hbox); have n2_ := zA ((by rw [hg]; exact (zL (by repeat (first | (with_reducible first | exact HB.out | apply zC | apply zB | apply zF) | exact HB.out))) : w.heap.size ≤ gb1198)); have n3_ := zA ((by rw [hg]; exact (zL (by repeat (first | (with_reducible first | exact HB.out | apply zC | apply zB | apply zF) | exact HB.out))) : w.heap.size ≤ gb1198)); clear HB; have HB := n0_; have BK1198 := n1_; have GW1198 := n2_; have GE1198 := n3_; clear n0_ n1_ n2_ n3_; clear hb hbox hg; have hcz37_0 : w36.cell? ⟨gb1198, 0, none⟩ = some (.slice A0_0 l0_0.length c0_0) := (zK BK1198.out 0).trans rfl; have hcz37_1 : w36.cell? ⟨gb1198, 1, none⟩ = some (.int .i64 a0_1) := (zK BK1198.out 1).trans rfl; have hcz37_2 : w36.cell? ⟨gb1198, 2, none⟩ = some (.bool a0_2) := (zK BK1198.out 2).trans rfl; have hcz37_3 : w36.cell? ⟨gb1198, 3, none⟩ = some (.int .i64 a0_3) := (zK BK1198.out 3).trans rfl; have hcz37_4 : w36.cell? ⟨gb1198, 4, none⟩ = some (.int .i64 a0_4) := (zK BK1198.out 4).trans rfl; have hfz37_0 := zJ BK1198.out 0; have hfz37_1 := zJ BK1198.out 1; have hfz37_2 := zJ BK1198.out 2; have hfz37_3 := zJ BK1198.out 3; have hfz37_4 := zJ BK1198.out 4) | ((with_reducible refine gate_callee (f := 134) rfl ?_); refine goesL_ (some 34) rfl rfl Try.func134 (by kernel_rfl) rfl #[.slice A0_0 l0_0.length c0_0] rfl (by (try simp only [zU, zV, zW]); first | done | rfl | (simp only [zR, zQ]; rfl)) ?_; (with_reducible refine (spec_l20Tell.calls k _ _ l0_0 t1199 t1202 t1203 t1204 t1205 _ ?side1 ?side2 A17.out).mono ?_); (case side1 => repeat (first | exact (Kd.C_below HR0_0.out HB.out) | (with_reducible refine yH ?_ _) | (with_reducible refine yF ?_ _) | (with_reducible refine yG ?_))); (case side2 => exact HC0_0.out); rintro e w38 ⟨v1200, rfl, ho0, hb⟩; refine ⟨_, rfl, ?_⟩; have n0_ := zA (Kd.R_lower ho0 (zL (by repeat (first | (with_reducible first | exact HB.out | apply zC | apply zB | apply zF | refine zE ?_ GE1198.out) | exact HB.out)))); have n1_ := zA (blk_below (g := gb1198) (o := .cells #[.slice A0_0 l0_0.length c0_0, .int .i64 a0_1, .bool a0_2, .int .i64 a0_3, .int .i64 a0_4] 84 (0, 0)) (by (with_reducible repeat (first | refine zG ?_ _ | refine zH ?_ | refine zD ?_ _)); exact BK1198.out) hb); have n2_ := zA (below_step (by repeat (first | (with_reducible first | exact HB.out | apply zC | apply zB | apply zF | refine zE ?_ GE1198.out) | exact HB.out)) hb); clear BK1198; clear HB; have HO1201 := n0_; have BK1198 := n1_; have HB := n2_; clear n0_ n1_ n2_; (try clear hb); (try clear hb2); (try clear hk); (try clear hi); (try clear ho0)) | ((with_reducible refine gate_dst (N := 3) rfl ?_); (try (refine gate_guard (by rfl) ?_; dsimp only)); refine box_event ?hg (N := 3) ?hd (cs := #[.slice none 0 0, .int .i64 0, .bool false, .int .i64 0, .int .i64 0]) (t := 84) ?hr ?_; (case hd => rfl); (case hg => rfl); (case hr => first | (go_simp; done) | (go_simp; rfl)); intro gb1206 hg w39 hbox hb; have n0_ := zA (Kd.R_below (by (with_reducible repeat (first | apply zN | apply zM | apply zO)); exact HO1201.out) hb); have n1_ := zA (blk_below (g := gb1198) (o := .cells #[.slice A0_0 l0_0.length c0_0, .int .i64 a0_1, .bool a0_2, .int .i64 a0_3, .int .i64 a0_4] 84 (0, 0)) (by (with_reducible repeat (first | refine zG ?_ _ | refine zH ?_ | refine zD ?_ _)); exact BK1198.out) hb); have n2_ := zA (below_step (by repeat (first | (with_reducible first | exact HB.out | apply zC | apply zB | apply zF | refine zE ?_ GE1198.out) | exact HB.out)) hb); have n3_ := zA (hbox); have n4_ := zA ((by rw [hg]; exact (zL (by repeat (first | (with_reducible first | exact HB.out | apply zC | apply zB | apply zF | refine zE ?_ GE1198.out) | exact HB.out))) : w.heap.size ≤ gb1206)); have n5_ := zA ((by rw [hg]; exact (zL (by repeat (first | (with_reducible first | exact HB.out | apply zC | apply zB | apply zF | refine zE ?_ GE1198.out) | exact HB.out))) : w.heap.size ≤ gb1206)); have n6_ := zA ((by rw [hg]; exact Nat.ne_of_lt (blk_lt (g := gb1198) (o := .cells #[.slice A0_0 l0_0.length c0_0, .int .i64 a0_1, .bool a0_2, .int .i64 a0_3, .int .i64 a0_4] 84 (0, 0)) (by (with_reducible repeat (first | refine zG ?_ _ | refine zH ?_ | refine zD ?_ _)); exact BK1198.out)) : gb1198 ≠ gb1206)); have n7_ := zA ((by rw [hg]; exact Nat.ne_of_gt (blk_lt (g := gb1198) (o := .cells #[.slice A0_0 l0_0.length c0_0, .int .i64 a0_1, .bool a0_2, .int .i64 a0_3, .int .i64 a0_4] 84 (0, 0)) (by (with_reducible repeat (first | refine zG ?_ _ | refine zH ?_ | refine zD ?_ _)); exact BK1198.out)) : gb1206 ≠ gb1198)); clear HO1201; clear BK1198; clear HB; have HO1201 := n0_; have BK1198 := n1_; have HB := n2_; have BK1206 := n3_; have GW1206 := n4_; have GE1206 := n5_; have NB1198_1206 := n6_; have NB1206_1198 := n7_; clear n0_ n1_ n2_ n3_ n4_ n5_ n6_ n7_; clear hb hbox hg; obtain ⟨Ao40, co40, eo40⟩ := Kd.R_slice HO1201.out; subst eo40; have hnb41 := NB1206_1198.out; have hnc41 := NB1198_1206.out; have hcz42_0 : w39.cell? ⟨gb1206, 0, none⟩ = some (.slice none 0 0) := (zK BK1206.out 0).trans rfl; have hcz42_1 : w39.cell? ⟨gb1206, 1, none⟩ = some (.int .i64 0) := (zK BK1206.out 1).trans rfl; have hcz42_2 : w39.cell? ⟨gb1206, 2, none⟩ = some (.bool false) := (zK BK1206.out 2).trans rfl; have hcz42_3 : w39.cell? ⟨gb1206, 3, none⟩ = some (.int .i64 0) := (zK BK1206.out 3).trans rfl; have hcz42_4 : w39.cell? ⟨gb1206, 4, none⟩ = some (.int .i64 0) := (zK BK1206.out 4).trans rfl; have hfz42_0 := zJ BK1206.out 0; have hfz42_1 := zJ BK1206.out 1; have hfz42_2 := zJ BK1206.out 2; have hfz42_3 := zJ BK1206.out 3; have hfz42_4 := zJ BK1206.out 4; have hcz43_0 : w39.cell? ⟨gb1198, 0, none⟩ = some (.slice A0_0 l0_0.length c0_0) := (zK BK1198.out 0).trans rfl; have hcz43_1 : w39.cell? ⟨gb1198, 1, none⟩ = some (.int .i64 a0_1) := (zK BK1198.out 1).trans rfl; have hcz43_2 : w39.cell? ⟨gb1198, 2, none⟩ = some (.bool a0_2) := (zK BK1198.out 2).trans rfl; have hcz43_3 : w39.cell? ⟨gb1198, 3, none⟩ = some (.int .i64 a0_3) := (zK BK1198.out 3).trans rfl; have hcz43_4 : w39.cell? ⟨gb1198, 4, none⟩ = some (.int .i64 a0_4) := (zK BK1198.out 4).trans rfl; have hfz43_0 := zJ BK1198.out 0; have hfz43_1 := zJ BK1198.out 1; have hfz43_2 := zJ BK1198.out 2; have hfz43_3 := zJ BK1198.out 3; have hfz43_4 := zJ BK1198.out 4))
    go_ret
    exact ⟨by first | rfl | (simp [errW_none, errW_some] <;> rfl) | (simp [*, errW_none, errW_some] <;> rfl), by repeat (first | (with_reducible first | exact HB.out | apply zC | apply zB | apply zF | refine zE ?_ GE1198.out | refine zE ?_ GE1206.out) | exact HB.out)⟩
theorem spec_FeedOk.ev (l : List Int) (n : Int) (o : Bool) (fc fa : Int) (hb : isB l = true) : Ev (fun k => spec_FeedOk.f k l n o fc fa) (feedOkM l n o fc fa) := by
 unfold spec_FeedOk.f feedOkM
 by_cases h1 : fc = 1
 ·rw [if_pos h1]
  refine Ev.ip h1 ?_
  by_cases hfa : fa = 0
  ·refine Ev.ip hfa ?_
   by_cases hl : l.length = 0
   ·refine Ev.ip (by omega) ?_
    by_cases hn : n = 0
    ·exact Ev.ip hn (Ev.eq (Ev.now _) (by simp [hfa, hl, hn]))
    ·exact Ev.ng hn (Ev.eq (Ev.now _) (by simp [hn]))
   ·exact Ev.ng (by omega) (Ev.eq (Ev.now _) (by rw [decide_eq_false hl]; simp))
  ·exact Ev.ng hfa (Ev.eq (Ev.now _) (by simp [hfa]))
 ·rw [if_neg h1]
  refine Ev.ng h1 ?_
  by_cases h60 : 60000 < l.length
  ·rw [if_pos h60]
   exact Ev.ip (by omega) (Ev.now _)
  ·rw [if_neg h60]
   refine Ev.ng (by omega) (Ev.bind (spec_l20Tell.ev l hb (by omega)) ?_)
   by_cases hn : (feedM l).1 = n
   ·refine Ev.ip hn ?_
    by_cases ho : (feedM l).2.1 = o
    ·refine Ev.ip (by simp only []; rw [ho]; simp) (Ev.eq (Ev.now _) ?_)
     simp only []
     rw [hn, ho]
     simp only [decide_true, beq_self_eq_true, Bool.true_and]
     rw [Bool.eq_iff_iff]
     simp only [Bool.and_eq_true, beq_iff_eq, decide_eq_true_eq]
     exact ⟨fun h => ⟨h.1.symm, h.2.symm⟩, fun h => ⟨h.1.symm, h.2.symm⟩⟩
    ·refine Ev.ng (by simp only [beq_iff_eq]; exact ho) (Ev.eq (Ev.now _) ?_)
     rw [show (o == (feedM l).2.1) = false by rw [beq_eq_false_iff_ne]; exact fun e => ho e.symm]
     simp
   ·refine Ev.ng hn (Ev.eq (Ev.now _) ?_)
    rw [decide_eq_false (fun e => hn e.symm)]
    simp
end Go.Proofs.Ytilimpjcdeeaiaa.G


namespace Go.Proofs.Ytilimpjcdeeaiaa.G
open Go.RowKit Go.Proofs.YtilimpjcdeeaiaaW.PrintWords Go.Proofs.YtilimpjcdeeaiaaW.PrintLast Go.Proofs.YtilimpjcdeeaiaaW.PrintMore
attribute [local go_sem] max2_int min2_int max_two min_two max_three min_three max_four min_four   -- for this text's walks alone
def deskM (st p w h : Int) (pl : List (List Int)) (row : Int) (l : List Int) (n : Int) (o : Bool) (fc fa : Int) : Bool :=
 if st = 0 then noPic p w h pl && (decide (row = 0) && noFeed l n o fc fa)
 else if st = 2 then noPic p w h pl && (decide (row = 0) && feedOkM l n o fc fa)
 else if st = 1 then picOkM p w h pl && ((decide (0 ≤ row) && decide (row ≤ h)) && (noFeed l n o fc fa && emptyFrom (row * w) pl))
 else if st = 3 then picOkM p w h pl && ((decide (0 ≤ row) && decide (row ≤ h)) && noFeed l n o fc fa)
 else false
end Go.Proofs.Ytilimpjcdeeaiaa.G


namespace Go.Proofs.Ytilimpjcdeeaiaa.G
open Go.RowKit Go.Proofs.YtilimpjcdeeaiaaW.PrintWords Go.Proofs.YtilimpjcdeeaiaaW.PrintLast Go.Proofs.YtilimpjcdeeaiaaW.PrintMore
attribute [local go_sem] max2_int min2_int max_two min_two max_three min_three max_four min_four   -- for this text's walks alone
mutual
def spec_DeskOk.j0 : Nat → Bool → Int → Bool → Int → Int → Int → Int → List (List Int) → Int → List Int → Int → Bool → Int → Int → Option (Bool)
 | 0, _, _, _, _, _, _, _, _, _, _, _, _, _, _ => none
 | k + 1, x3, x10, x24, x1208000, x1208001, x1208002, x1208003, x1208004, x1208005, x1208006, x1208007, x1208008, x1208009, x1208010 => if x24 = true then (if x3 = true then ((spec_PictureOk.f k x1208001 x1208002 x1208003 x1208004).bind fun t1210 => (if t1210 = true then ((spec_l01Between.f x1208005 0 x1208003).bind fun t1211 => (spec_DeskOk.j1 k (!t1211) x1208000 x1208001 x1208002 x1208003 x1208004 x1208005 x1208006 x1208007 x1208008 x1208009 x1208010)) else (spec_DeskOk.j1 k true x1208000 x1208001 x1208002 x1208003 x1208004 x1208005 x1208006 x1208007 x1208008 x1208009 x1208010))) else (spec_DeskOk.j1 k true x1208000 x1208001 x1208002 x1208003 x1208004 x1208005 x1208006 x1208007 x1208008 x1208009 x1208010)) else (if x10 = 2 then ((spec_FeedOk.f k x1208006 x1208007 x1208008 x1208009 x1208010).bind fun t1215 => (if t1215 = true then (if x1208005 = 0 then ((spec_l22None.f x1208001 x1208002 x1208003 x1208004).bind fun t1216 => (some t1216)) else (some false)) else (some false))) else (some false))
def spec_DeskOk.j1 : Nat → Bool → Int → Int → Int → Int → List (List Int) → Int → List Int → Int → Bool → Int → Int → Option (Bool)
 | 0, _, _, _, _, _, _, _, _, _, _, _, _ => none
 | k + 1, x43, x1208000, x1208001, x1208002, x1208003, x1208004, x1208005, x1208006, x1208007, x1208008, x1208009, x1208010 => if x43 = true then (some false) else (spec_DeskOk.l0 k 0 x1208000 x1208001 x1208002 x1208003 x1208004 x1208005 x1208006 x1208007 x1208008 x1208009 x1208010)
def spec_DeskOk.l0 : Nat → Int → Int → Int → Int → Int → List (List Int) → Int → List Int → Int → Bool → Int → Int → Option (Bool)
 | 0, _, _, _, _, _, _, _, _, _, _, _, _ => none
 | k + 1, x4, x1208000, x1208001, x1208002, x1208003, x1208004, x1208005, x1208006, x1208007, x1208008, x1208009, x1208010 => if x4 < (x1208004.length : Int) then (spec_DeskOk.j3 k x4 (x1208000 == 1) x1208000 x1208001 x1208002 x1208003 x1208004 x1208005 x1208006 x1208007 x1208008 x1208009 x1208010) else (spec_DeskOk.j3 k x4 false x1208000 x1208001 x1208002 x1208003 x1208004 x1208005 x1208006 x1208007 x1208008 x1208009 x1208010)
def spec_DeskOk.j3 : Nat → Int → Bool → Int → Int → Int → Int → List (List Int) → Int → List Int → Int → Bool → Int → Int → Option (Bool)
 | 0, _, _, _, _, _, _, _, _, _, _, _, _, _ => none
 | k + 1, x4, x54, x1208000, x1208001, x1208002, x1208003, x1208004, x1208005, x1208006, x1208007, x1208008, x1208009, x1208010 => if x54 = true then (if 0 ≤ x4 then (if x4 < (x1208004.length : Int) then (if 0 ≤ (wrap64 (x1208005 * x1208002)) then (if (wrap64 (x1208005 * x1208002)) ≤ ((rd_L3 x1208004 x4).length : Int) then ((spec_l11Zero.f k ((rd_L3 x1208004 x4).drop ((wrap64 (x1208005 * x1208002)) : Int).toNat)).bind fun t1214 => (if t1214 = true then (spec_DeskOk.l0 k (wrap64 (x4 + 1)) x1208000 x1208001 x1208002 x1208003 x1208004 x1208005 x1208006 x1208007 x1208008 x1208009 x1208010) else (some false))) else (none)) else (none)) else (none)) else (none)) else (some true)
end
def spec_DeskOk.f (k : Nat) (a0_0 : Int) (a0_1 : Int) (a0_2 : Int) (a0_3 : Int) (l0_4 : List (List Int)) (a0_5 : Int) (l0_6 : List Int) (a0_7 : Int) (a0_8 : Bool) (a0_9 : Int) (a0_10 : Int) : Option (Bool) := (spec_l22Same.f k l0_6 a0_7 a0_8 a0_9 a0_10 ([] : List Int) 0 false 0 0).bind fun t1208 => (if a0_0 = 0 then (if t1208 = true then (if a0_5 = 0 then ((spec_l22None.f a0_1 a0_2 a0_3 l0_4).bind fun t1209 => (some t1209)) else (some false)) else (some false)) else (if a0_0 = 1 then (spec_DeskOk.j0 k t1208 a0_0 (a0_0 == 1) a0_0 a0_1 a0_2 a0_3 l0_4 a0_5 l0_6 a0_7 a0_8 a0_9 a0_10) else (spec_DeskOk.j0 k t1208 a0_0 (a0_0 == 3) a0_0 a0_1 a0_2 a0_3 l0_4 a0_5 l0_6 a0_7 a0_8 a0_9 a0_10)))
theorem spec_DeskOk.mono_l : ∀ k, (∀ y0 y1 y2 y3 y4 y5 y6 y7 y8 y9 y10 y11 y12 y13, LeO (spec_DeskOk.j0 k y0 y1 y2 y3 y4 y5 y6 y7 y8 y9 y10 y11 y12 y13) (spec_DeskOk.j0 (k + 1) y0 y1 y2 y3 y4 y5 y6 y7 y8 y9 y10 y11 y12 y13)) ∧ (∀ y0 y1 y2 y3 y4 y5 y6 y7 y8 y9 y10 y11, LeO (spec_DeskOk.j1 k y0 y1 y2 y3 y4 y5 y6 y7 y8 y9 y10 y11) (spec_DeskOk.j1 (k + 1) y0 y1 y2 y3 y4 y5 y6 y7 y8 y9 y10 y11)) ∧ (∀ y0 y1 y2 y3 y4 y5 y6 y7 y8 y9 y10 y11, LeO (spec_DeskOk.l0 k y0 y1 y2 y3 y4 y5 y6 y7 y8 y9 y10 y11) (spec_DeskOk.l0 (k + 1) y0 y1 y2 y3 y4 y5 y6 y7 y8 y9 y10 y11)) ∧ (∀ y0 y1 y2 y3 y4 y5 y6 y7 y8 y9 y10 y11 y12, LeO (spec_DeskOk.j3 k y0 y1 y2 y3 y4 y5 y6 y7 y8 y9 y10 y11 y12) (spec_DeskOk.j3 (k + 1) y0 y1 y2 y3 y4 y5 y6 y7 y8 y9 y10 y11 y12))
 | 0 => ⟨fun _ _ _ _ _ _ _ _ _ _ _ _ _ _ r h => by simp [spec_DeskOk.j0] at h, fun _ _ _ _ _ _ _ _ _ _ _ _ r h => by simp [spec_DeskOk.j1] at h, fun _ _ _ _ _ _ _ _ _ _ _ _ r h => by simp [spec_DeskOk.l0] at h, fun _ _ _ _ _ _ _ _ _ _ _ _ _ r h => by simp [spec_DeskOk.j3] at h⟩
 | k + 1 => by
  obtain ⟨ih0, ih1, ih2, ih3⟩ := spec_DeskOk.mono_l k
  refine ⟨?_, ?_, ?_, ?_⟩
  ·intro y0 y1 y2 y3 y4 y5 y6 y7 y8 y9 y10 y11 y12 y13
   unfold spec_DeskOk.j0
   repeat' first
   | (with_reducible exact ih0 _ _ _ _ _ _ _ _ _ _ _ _ _ _)
   | (with_reducible exact ih1 _ _ _ _ _ _ _ _ _ _ _ _)
   | (with_reducible exact ih2 _ _ _ _ _ _ _ _ _ _ _ _)
   | (with_reducible exact ih3 _ _ _ _ _ _ _ _ _ _ _ _ _)
   | (with_reducible exact spec_FeedOk.mono _ _ _ _ _ _)
   | (with_reducible exact spec_PictureOk.mono _ _ _ _ _)
   | (with_reducible exact spec_l11Zero.mono _ _)
   | (with_reducible exact spec_l22Same.mono _ _ _ _ _ _ _ _ _ _ _)
   | (with_reducible exact LeO.refl _)
   | (with_reducible exact LeO.none _)
   | (with_reducible refine LeO.ite ?_ ?_)
   | (with_reducible refine LeO.bind ?_ (fun _ => ?_))
   | exact ih0 _ _ _ _ _ _ _ _ _ _ _ _ _ _
   | exact ih1 _ _ _ _ _ _ _ _ _ _ _ _
   | exact ih2 _ _ _ _ _ _ _ _ _ _ _ _
   | exact ih3 _ _ _ _ _ _ _ _ _ _ _ _ _
   | exact spec_FeedOk.mono _ _ _ _ _ _
   | exact spec_PictureOk.mono _ _ _ _ _
   | exact spec_l11Zero.mono _ _
   | exact spec_l22Same.mono _ _ _ _ _ _ _ _ _ _ _
   | exact LeO.none _
   | refine LeO.ite ?_ ?_
   | refine LeO.bind ?_ (fun _ => ?_)
  ·intro y0 y1 y2 y3 y4 y5 y6 y7 y8 y9 y10 y11
   unfold spec_DeskOk.j1
   repeat' first
   | (with_reducible exact ih0 _ _ _ _ _ _ _ _ _ _ _ _ _ _)
   | (with_reducible exact ih1 _ _ _ _ _ _ _ _ _ _ _ _)
   | (with_reducible exact ih2 _ _ _ _ _ _ _ _ _ _ _ _)
   | (with_reducible exact ih3 _ _ _ _ _ _ _ _ _ _ _ _ _)
   | (with_reducible exact spec_FeedOk.mono _ _ _ _ _ _)
   | (with_reducible exact spec_PictureOk.mono _ _ _ _ _)
   | (with_reducible exact spec_l11Zero.mono _ _)
   | (with_reducible exact spec_l22Same.mono _ _ _ _ _ _ _ _ _ _ _)
   | (with_reducible exact LeO.refl _)
   | (with_reducible exact LeO.none _)
   | (with_reducible refine LeO.ite ?_ ?_)
   | (with_reducible refine LeO.bind ?_ (fun _ => ?_))
   | exact ih0 _ _ _ _ _ _ _ _ _ _ _ _ _ _
   | exact ih1 _ _ _ _ _ _ _ _ _ _ _ _
   | exact ih2 _ _ _ _ _ _ _ _ _ _ _ _
   | exact ih3 _ _ _ _ _ _ _ _ _ _ _ _ _
   | exact spec_FeedOk.mono _ _ _ _ _ _
   | exact spec_PictureOk.mono _ _ _ _ _
   | exact spec_l11Zero.mono _ _
   | exact spec_l22Same.mono _ _ _ _ _ _ _ _ _ _ _
   | exact LeO.none _
   | refine LeO.ite ?_ ?_
   | refine LeO.bind ?_ (fun _ => ?_)
  ·intro y0 y1 y2 y3 y4 y5 y6 y7 y8 y9 y10 y11
   unfold spec_DeskOk.l0
   repeat' first
   | (with_reducible exact ih0 _ _ _ _ _ _ _ _ _ _ _ _ _ _)
   | (with_reducible exact ih1 _ _ _ _ _ _ _ _ _ _ _ _)
   | (with_reducible exact ih2 _ _ _ _ _ _ _ _ _ _ _ _)
   | (with_reducible exact ih3 _ _ _ _ _ _ _ _ _ _ _ _ _)
   | (with_reducible exact spec_FeedOk.mono _ _ _ _ _ _)
   | (with_reducible exact spec_PictureOk.mono _ _ _ _ _)
   | (with_reducible exact spec_l11Zero.mono _ _)
   | (with_reducible exact spec_l22Same.mono _ _ _ _ _ _ _ _ _ _ _)
   | (with_reducible exact LeO.refl _)
   | (with_reducible exact LeO.none _)
   | (with_reducible refine LeO.ite ?_ ?_)
   | (with_reducible refine LeO.bind ?_ (fun _ => ?_))
   | exact ih0 _ _ _ _ _ _ _ _ _ _ _ _ _ _
   | exact ih1 _ _ _ _ _ _ _ _ _ _ _ _
   | exact ih2 _ _ _ _ _ _ _ _ _ _ _ _
   | exact ih3 _ _ _ _ _ _ _ _ _ _ _ _ _
   | exact spec_FeedOk.mono _ _ _ _ _ _
   | exact spec_PictureOk.mono _ _ _ _ _
   | exact spec_l11Zero.mono _ _
   | exact spec_l22Same.mono _ _ _ _ _ _ _ _ _ _ _
   | exact LeO.none _
   | refine LeO.ite ?_ ?_
   | refine LeO.bind ?_ (fun _ => ?_)
  ·intro y0 y1 y2 y3 y4 y5 y6 y7 y8 y9 y10 y11 y12
   unfold spec_DeskOk.j3
   repeat' first
   | (with_reducible exact ih0 _ _ _ _ _ _ _ _ _ _ _ _ _ _)
   | (with_reducible exact ih1 _ _ _ _ _ _ _ _ _ _ _ _)
   | (with_reducible exact ih2 _ _ _ _ _ _ _ _ _ _ _ _)
   | (with_reducible exact ih3 _ _ _ _ _ _ _ _ _ _ _ _ _)
   | (with_reducible exact spec_FeedOk.mono _ _ _ _ _ _)
   | (with_reducible exact spec_PictureOk.mono _ _ _ _ _)
   | (with_reducible exact spec_l11Zero.mono _ _)
   | (with_reducible exact spec_l22Same.mono _ _ _ _ _ _ _ _ _ _ _)
   | (with_reducible exact LeO.refl _)
   | (with_reducible exact LeO.none _)
   | (with_reducible refine LeO.ite ?_ ?_)
   | (with_reducible refine LeO.bind ?_ (fun _ => ?_))
   | exact ih0 _ _ _ _ _ _ _ _ _ _ _ _ _ _
   | exact ih1 _ _ _ _ _ _ _ _ _ _ _ _
   | exact ih2 _ _ _ _ _ _ _ _ _ _ _ _
   | exact ih3 _ _ _ _ _ _ _ _ _ _ _ _ _
   | exact spec_FeedOk.mono _ _ _ _ _ _
   | exact spec_PictureOk.mono _ _ _ _ _
   | exact spec_l11Zero.mono _ _
   | exact spec_l22Same.mono _ _ _ _ _ _ _ _ _ _ _
   | exact LeO.none _
   | refine LeO.ite ?_ ?_
   | refine LeO.bind ?_ (fun _ => ?_)
theorem spec_DeskOk.mono : ∀ a0 a1 a2 a3 a4 a5 a6 a7 a8 a9 a10 k, LeO (spec_DeskOk.f k a0 a1 a2 a3 a4 a5 a6 a7 a8 a9 a10) (spec_DeskOk.f (k + 1) a0 a1 a2 a3 a4 a5 a6 a7 a8 a9 a10) := by
 intro a0 a1 a2 a3 a4 a5 a6 a7 a8 a9 a10 k
 obtain ⟨ih0, ih1, ih2, ih3⟩ := spec_DeskOk.mono_l k
 unfold spec_DeskOk.f
 repeat' first
   | (with_reducible exact ih0 _ _ _ _ _ _ _ _ _ _ _ _ _ _)
   | (with_reducible exact ih1 _ _ _ _ _ _ _ _ _ _ _ _)
   | (with_reducible exact ih2 _ _ _ _ _ _ _ _ _ _ _ _)
   | (with_reducible exact ih3 _ _ _ _ _ _ _ _ _ _ _ _ _)
   | (with_reducible exact spec_FeedOk.mono _ _ _ _ _ _)
   | (with_reducible exact spec_PictureOk.mono _ _ _ _ _)
   | (with_reducible exact spec_l11Zero.mono _ _)
   | (with_reducible exact spec_l22Same.mono _ _ _ _ _ _ _ _ _ _ _)
   | (with_reducible exact LeO.refl _)
   | (with_reducible exact LeO.none _)
   | (with_reducible refine LeO.ite ?_ ?_)
   | (with_reducible refine LeO.bind ?_ (fun _ => ?_))
   | exact ih0 _ _ _ _ _ _ _ _ _ _ _ _ _ _
   | exact ih1 _ _ _ _ _ _ _ _ _ _ _ _
   | exact ih2 _ _ _ _ _ _ _ _ _ _ _ _
   | exact ih3 _ _ _ _ _ _ _ _ _ _ _ _ _
   | exact spec_FeedOk.mono _ _ _ _ _ _
   | exact spec_PictureOk.mono _ _ _ _ _
   | exact spec_l11Zero.mono _ _
   | exact spec_l22Same.mono _ _ _ _ _ _ _ _ _ _ _
   | exact LeO.none _
   | refine LeO.ite ?_ ?_
   | refine LeO.bind ?_ (fun _ => ?_)
set_option maxHeartbeats 8000000 in
set_option maxRecDepth 100000 in
theorem spec_DeskOk.calls (k : Nat) (a0_0 : Int) (a0_1 : Int) (a0_2 : Int) (a0_3 : Int) (A0_4 : Option Addr) (c0_4 : Nat) (l0_4 : List (List Int)) (a0_5 : Int) (A0_6 : Option Addr) (c0_6 : Nat) (l0_6 : List Int) (a0_7 : Int) (a0_8 : Bool) (a0_9 : Int) (a0_10 : Int) (r : Bool) (w : World) (hr0_4 : Kd.C (Kd.slice 3 (Kd.int .i64)) w A0_4 l0_4.length l0_4) (hc0_4 : l0_4.length ≤ c0_4) (hr0_6 : Kd.C (Kd.int .u8) w A0_6 l0_6.length l0_6) (hc0_6 : l0_6.length ≤ c0_6) (h : spec_DeskOk.f k a0_0 a0_1 a0_2 a0_3 l0_4 a0_5 l0_6 a0_7 a0_8 a0_9 a0_10 = some r) :
  Calls Try.prog 42 #[.agg #[.int .i64 a0_0, .int .i64 a0_1, .int .i64 a0_2, .int .i64 a0_3, .slice A0_4 l0_4.length c0_4, .int .i64 a0_5, .slice A0_6 l0_6.length c0_6, .int .i64 a0_7, .bool a0_8, .int .i64 a0_9, .int .i64 a0_10]] w fun e w' => e = .returned (.bool r) ∧ Below w.heap.size w w' := by
 have hu86 := Try.underlying86
 have hu84 := Try.underlying84
 have hu81 := Try.underlying81
 have HR0_4 := zA hr0_4
 have HC0_4 := zA hc0_4
 clear hr0_4 hc0_4
 have HR0_6 := zA hr0_6
 have HC0_6 := zA hc0_6
 clear hr0_6 hc0_6
 have HB := zA (Below.refl w.heap.size w)
 have H : ((spec_l22Same.f k l0_6 a0_7 a0_8 a0_9 a0_10 ([] : List Int) 0 false 0 0).bind fun t1208 => (if a0_0 = 0 then (if t1208 = true then (if a0_5 = 0 then ((spec_l22None.f a0_1 a0_2 a0_3 l0_4).bind fun t1209 => (some t1209)) else (some false)) else (some false)) else (if a0_0 = 1 then (spec_DeskOk.j0 k t1208 a0_0 (a0_0 == 1) a0_0 a0_1 a0_2 a0_3 l0_4 a0_5 l0_6 a0_7 a0_8 a0_9 a0_10) else (spec_DeskOk.j0 k t1208 a0_0 (a0_0 == 3) a0_0 a0_1 a0_2 a0_3 l0_4 a0_5 l0_6 a0_7 a0_8 a0_9 a0_10)))) = some r := h
 clear h
 replace H := Option.bind_eq_some_iff.mp H
 obtain ⟨t1208, A20, H⟩ := H
 replace H : (if a0_0 = 0 then (if t1208 = true then (if a0_5 = 0 then ((spec_l22None.f a0_1 a0_2 a0_3 l0_4).bind fun t1209 => (some t1209)) else (some false)) else (some false)) else (if a0_0 = 1 then (spec_DeskOk.j0 k t1208 a0_0 (a0_0 == 1) a0_0 a0_1 a0_2 a0_3 l0_4 a0_5 l0_6 a0_7 a0_8 a0_9 a0_10) else (spec_DeskOk.j0 k t1208 a0_0 (a0_0 == 3) a0_0 a0_1 a0_2 a0_3 l0_4 a0_5 l0_6 a0_7 a0_8 a0_9 a0_10))) = some r := H
 have A2 := zA A20
 clear A20
 by_cases c3 : a0_0 = 0
 ·rw [if_pos c3] at H
  have c3b0 : (a0_0 == 0) = true := beq_iff_eq.mpr c3
  have c3b1 : (a0_0 != 0) = false := bne_eq_false_iff_eq.mpr c3
  clear c3
  by_cases c4 : t1208 = true
  ·subst c4
   have H1 : (if a0_5 = 0 then ((spec_l22None.f a0_1 a0_2 a0_3 l0_4).bind fun t1209 => (some t1209)) else (some false)) = some r := by rw [if_pos rfl] at H; exact H
   clear H
   have H := H1
   clear H1
   by_cases c5 : a0_5 = 0
   ·rw [if_pos c5] at H
    have c5b0 : (a0_5 == 0) = true := beq_iff_eq.mpr c5
    have c5b1 : (a0_5 != 0) = false := bne_eq_false_iff_eq.mpr c5
    clear c5
    replace H := Option.bind_eq_some_iff.mp H
    obtain ⟨t1209, A60, H⟩ := H
    replace H : (some t1209) = some r := H
    have A6 := zA A60
    clear A60
    obtain rfl := Option.some.inj H
    go_enter Try.func42, Try.ntmps42
    go_wp2_with (first | ((with_reducible refine gate_dst (N := 1) rfl ?_); refine box_event ?hg (N := 1) ?hd (cs := #[.int .i64 a0_0, .int .i64 a0_1, .int .i64 a0_2, .int .i64 a0_3, .slice A0_4 l0_4.length c0_4, .int .i64 a0_5, .slice A0_6 l0_6.length c0_6, .int .i64 a0_7, .bool a0_8, .int .i64 a0_9, .int .i64 a0_10]) (t := 86) ?hr ?_; (case hd => rfl); (case hg => rfl); (case hr => first | (go_simp; done) | (go_simp; rfl)); intro gb1207 hg w7 hbox hb; have n0_ := zA (below_step (by repeat (first | (with_reducible first | exact HB.out | apply zC | apply zB | apply zF) | exact HB.out)) hb); have n1_ := zA (hbox); have n2_ := zA ((by rw [hg]; exact (zL (by repeat (first | (with_reducible first | exact HB.out | apply zC | apply zB | apply zF) | exact HB.out))) : w.heap.size ≤ gb1207)); have n3_ := zA ((by rw [hg]; exact (zL (by repeat (first | (with_reducible first | exact HB.out | apply zC | apply zB | apply zF) | exact HB.out))) : w.heap.size ≤ gb1207)); clear HB; have HB := n0_; have BK1207 := n1_; have GW1207 := n2_; have GE1207 := n3_; clear n0_ n1_ n2_ n3_; clear hb hbox hg; have hcz8_0 : w7.cell? ⟨gb1207, 0, none⟩ = some (.int .i64 a0_0) := (zK BK1207.out 0).trans rfl; have hcz8_1 : w7.cell? ⟨gb1207, 1, none⟩ = some (.int .i64 a0_1) := (zK BK1207.out 1).trans rfl; have hcz8_2 : w7.cell? ⟨gb1207, 2, none⟩ = some (.int .i64 a0_2) := (zK BK1207.out 2).trans rfl; have hcz8_3 : w7.cell? ⟨gb1207, 3, none⟩ = some (.int .i64 a0_3) := (zK BK1207.out 3).trans rfl; have hcz8_4 : w7.cell? ⟨gb1207, 4, none⟩ = some (.slice A0_4 l0_4.length c0_4) := (zK BK1207.out 4).trans rfl; have hcz8_5 : w7.cell? ⟨gb1207, 5, none⟩ = some (.int .i64 a0_5) := (zK BK1207.out 5).trans rfl; have hcz8_6 : w7.cell? ⟨gb1207, 6, none⟩ = some (.slice A0_6 l0_6.length c0_6) := (zK BK1207.out 6).trans rfl; have hcz8_7 : w7.cell? ⟨gb1207, 7, none⟩ = some (.int .i64 a0_7) := (zK BK1207.out 7).trans rfl; have hcz8_8 : w7.cell? ⟨gb1207, 8, none⟩ = some (.bool a0_8) := (zK BK1207.out 8).trans rfl; have hcz8_9 : w7.cell? ⟨gb1207, 9, none⟩ = some (.int .i64 a0_9) := (zK BK1207.out 9).trans rfl; have hcz8_10 : w7.cell? ⟨gb1207, 10, none⟩ = some (.int .i64 a0_10) := (zK BK1207.out 10).trans rfl) | (go_at_call 91; (refine (spec_l22Same.calls k _ _ l0_6 a0_7 a0_8 a0_9 a0_10 _ _ ([] : List Int) 0 false 0 0 true _ ?side1 ?side2 ?side3 ?side4 A2.out).mono ?_); (case side1 => repeat (first | exact (Kd.C_below HR0_6.out HB.out) | (with_reducible refine yH ?_ _) | (with_reducible refine yF ?_ _) | (with_reducible refine yG ?_))); (case side2 => exact HC0_6.out); (case side3 => exact Kd.C_nil _ _); (case side4 => exact Nat.le_refl _); rintro e w9 ⟨rfl, hb⟩; have n0_ := zA (blk_below (g := gb1207) (o := .cells #[.int .i64 a0_0, .int .i64 a0_1, .int .i64 a0_2, .int .i64 a0_3, .slice A0_4 l0_4.length c0_4, .int .i64 a0_5, .slice A0_6 l0_6.length c0_6, .int .i64 a0_7, .bool a0_8, .int .i64 a0_9, .int .i64 a0_10] 86 (0, 0)) (by (with_reducible repeat (first | refine zG ?_ _ | refine zH ?_ | refine zD ?_ _)); exact BK1207.out) hb); have n1_ := zA (below_step (by repeat (first | (with_reducible first | exact HB.out | apply zC | apply zB | apply zF | refine zE ?_ GE1207.out) | exact HB.out)) hb); clear BK1207; clear HB; have BK1207 := n0_; have HB := n1_; clear n0_ n1_; (try clear hb); (try clear hb2); (try clear hk); (try clear hi); have hcz10_0 : w9.cell? ⟨gb1207, 0, none⟩ = some (.int .i64 a0_0) := (zK BK1207.out 0).trans rfl; have hcz10_1 : w9.cell? ⟨gb1207, 1, none⟩ = some (.int .i64 a0_1) := (zK BK1207.out 1).trans rfl; have hcz10_2 : w9.cell? ⟨gb1207, 2, none⟩ = some (.int .i64 a0_2) := (zK BK1207.out 2).trans rfl; have hcz10_3 : w9.cell? ⟨gb1207, 3, none⟩ = some (.int .i64 a0_3) := (zK BK1207.out 3).trans rfl; have hcz10_4 : w9.cell? ⟨gb1207, 4, none⟩ = some (.slice A0_4 l0_4.length c0_4) := (zK BK1207.out 4).trans rfl; have hcz10_5 : w9.cell? ⟨gb1207, 5, none⟩ = some (.int .i64 a0_5) := (zK BK1207.out 5).trans rfl; have hcz10_6 : w9.cell? ⟨gb1207, 6, none⟩ = some (.slice A0_6 l0_6.length c0_6) := (zK BK1207.out 6).trans rfl; have hcz10_7 : w9.cell? ⟨gb1207, 7, none⟩ = some (.int .i64 a0_7) := (zK BK1207.out 7).trans rfl; have hcz10_8 : w9.cell? ⟨gb1207, 8, none⟩ = some (.bool a0_8) := (zK BK1207.out 8).trans rfl; have hcz10_9 : w9.cell? ⟨gb1207, 9, none⟩ = some (.int .i64 a0_9) := (zK BK1207.out 9).trans rfl; have hcz10_10 : w9.cell? ⟨gb1207, 10, none⟩ = some (.int .i64 a0_10) := (zK BK1207.out 10).trans rfl) | (go_at_call 92; (with_reducible refine (spec_l22None.calls a0_1 a0_2 a0_3 _ _ l0_4 t1209 _ ?side1 ?side2 A6.out).mono ?_); (case side1 => repeat (first | exact (Kd.C_below HR0_4.out HB.out) | (with_reducible refine yH ?_ _) | (with_reducible refine yF ?_ _) | (with_reducible refine yG ?_))); (case side2 => exact HC0_4.out); rintro e w11 ⟨rfl, hb⟩; have n0_ := zA (blk_below (g := gb1207) (o := .cells #[.int .i64 a0_0, .int .i64 a0_1, .int .i64 a0_2, .int .i64 a0_3, .slice A0_4 l0_4.length c0_4, .int .i64 a0_5, .slice A0_6 l0_6.length c0_6, .int .i64 a0_7, .bool a0_8, .int .i64 a0_9, .int .i64 a0_10] 86 (0, 0)) (by (with_reducible repeat (first | refine zG ?_ _ | refine zH ?_ | refine zD ?_ _)); exact BK1207.out) hb); have n1_ := zA (below_step (by repeat (first | (with_reducible first | exact HB.out | apply zC | apply zB | apply zF | refine zE ?_ GE1207.out) | exact HB.out)) hb); clear BK1207; clear HB; have BK1207 := n0_; have HB := n1_; clear n0_ n1_; (try clear hb); (try clear hb2); (try clear hk); (try clear hi)))
    go_ret
    exact ⟨by first | rfl | (simp [errW_none, errW_some] <;> rfl) | (simp [*, errW_none, errW_some] <;> rfl), by repeat (first | (with_reducible first | exact HB.out | apply zC | apply zB | apply zF | refine zE ?_ GE1207.out) | exact HB.out)⟩
   ·rw [if_neg c5] at H
    have c5b0 : (a0_5 == 0) = false := beq_eq_false_iff_ne.mpr c5
    have c5b1 : (a0_5 != 0) = true := bne_iff_ne.mpr c5
    obtain rfl := Option.some.inj H
    go_enter Try.func42, Try.ntmps42
    go_wp2_with (first | ((with_reducible refine gate_dst (N := 1) rfl ?_); refine box_event ?hg (N := 1) ?hd (cs := #[.int .i64 a0_0, .int .i64 a0_1, .int .i64 a0_2, .int .i64 a0_3, .slice A0_4 l0_4.length c0_4, .int .i64 a0_5, .slice A0_6 l0_6.length c0_6, .int .i64 a0_7, .bool a0_8, .int .i64 a0_9, .int .i64 a0_10]) (t := 86) ?hr ?_; (case hd => rfl); (case hg => rfl); (case hr => first | (go_simp; done) | (go_simp; rfl)); intro gb1207 hg w12 hbox hb; have n0_ := zA (below_step (by repeat (first | (with_reducible first | exact HB.out | apply zC | apply zB | apply zF) | exact HB.out)) hb); have n1_ := zA (hbox); have n2_ := zA ((by rw [hg]; exact (zL (by repeat (first | (with_reducible first | exact HB.out | apply zC | apply zB | apply zF) | exact HB.out))) : w.heap.size ≤ gb1207)); have n3_ := zA ((by rw [hg]; exact (zL (by repeat (first | (with_reducible first | exact HB.out | apply zC | apply zB | apply zF) | exact HB.out))) : w.heap.size ≤ gb1207)); clear HB; have HB := n0_; have BK1207 := n1_; have GW1207 := n2_; have GE1207 := n3_; clear n0_ n1_ n2_ n3_; clear hb hbox hg; have hcz13_0 : w12.cell? ⟨gb1207, 0, none⟩ = some (.int .i64 a0_0) := (zK BK1207.out 0).trans rfl; have hcz13_1 : w12.cell? ⟨gb1207, 1, none⟩ = some (.int .i64 a0_1) := (zK BK1207.out 1).trans rfl; have hcz13_2 : w12.cell? ⟨gb1207, 2, none⟩ = some (.int .i64 a0_2) := (zK BK1207.out 2).trans rfl; have hcz13_3 : w12.cell? ⟨gb1207, 3, none⟩ = some (.int .i64 a0_3) := (zK BK1207.out 3).trans rfl; have hcz13_4 : w12.cell? ⟨gb1207, 4, none⟩ = some (.slice A0_4 l0_4.length c0_4) := (zK BK1207.out 4).trans rfl; have hcz13_5 : w12.cell? ⟨gb1207, 5, none⟩ = some (.int .i64 a0_5) := (zK BK1207.out 5).trans rfl; have hcz13_6 : w12.cell? ⟨gb1207, 6, none⟩ = some (.slice A0_6 l0_6.length c0_6) := (zK BK1207.out 6).trans rfl; have hcz13_7 : w12.cell? ⟨gb1207, 7, none⟩ = some (.int .i64 a0_7) := (zK BK1207.out 7).trans rfl; have hcz13_8 : w12.cell? ⟨gb1207, 8, none⟩ = some (.bool a0_8) := (zK BK1207.out 8).trans rfl; have hcz13_9 : w12.cell? ⟨gb1207, 9, none⟩ = some (.int .i64 a0_9) := (zK BK1207.out 9).trans rfl; have hcz13_10 : w12.cell? ⟨gb1207, 10, none⟩ = some (.int .i64 a0_10) := (zK BK1207.out 10).trans rfl) | (go_at_call 91; (refine (spec_l22Same.calls k _ _ l0_6 a0_7 a0_8 a0_9 a0_10 _ _ ([] : List Int) 0 false 0 0 true _ ?side1 ?side2 ?side3 ?side4 A2.out).mono ?_); (case side1 => repeat (first | exact (Kd.C_below HR0_6.out HB.out) | (with_reducible refine yH ?_ _) | (with_reducible refine yF ?_ _) | (with_reducible refine yG ?_))); (case side2 => exact HC0_6.out); (case side3 => exact Kd.C_nil _ _); (case side4 => exact Nat.le_refl _); rintro e w14 ⟨rfl, hb⟩; have n0_ := zA (blk_below (g := gb1207) (o := .cells #[.int .i64 a0_0, .int .i64 a0_1, .int .i64 a0_2, .int .i64 a0_3, .slice A0_4 l0_4.length c0_4, .int .i64 a0_5, .slice A0_6 l0_6.length c0_6, .int .i64 a0_7, .bool a0_8, .int .i64 a0_9, .int .i64 a0_10] 86 (0, 0)) (by (with_reducible repeat (first | refine zG ?_ _ | refine zH ?_ | refine zD ?_ _)); exact BK1207.out) hb); have n1_ := zA (below_step (by repeat (first | (with_reducible first | exact HB.out | apply zC | apply zB | apply zF | refine zE ?_ GE1207.out) | exact HB.out)) hb); clear BK1207; clear HB; have BK1207 := n0_; have HB := n1_; clear n0_ n1_; (try clear hb); (try clear hb2); (try clear hk); (try clear hi); have hcz15_0 : w14.cell? ⟨gb1207, 0, none⟩ = some (.int .i64 a0_0) := (zK BK1207.out 0).trans rfl; have hcz15_1 : w14.cell? ⟨gb1207, 1, none⟩ = some (.int .i64 a0_1) := (zK BK1207.out 1).trans rfl; have hcz15_2 : w14.cell? ⟨gb1207, 2, none⟩ = some (.int .i64 a0_2) := (zK BK1207.out 2).trans rfl; have hcz15_3 : w14.cell? ⟨gb1207, 3, none⟩ = some (.int .i64 a0_3) := (zK BK1207.out 3).trans rfl; have hcz15_4 : w14.cell? ⟨gb1207, 4, none⟩ = some (.slice A0_4 l0_4.length c0_4) := (zK BK1207.out 4).trans rfl; have hcz15_5 : w14.cell? ⟨gb1207, 5, none⟩ = some (.int .i64 a0_5) := (zK BK1207.out 5).trans rfl; have hcz15_6 : w14.cell? ⟨gb1207, 6, none⟩ = some (.slice A0_6 l0_6.length c0_6) := (zK BK1207.out 6).trans rfl; have hcz15_7 : w14.cell? ⟨gb1207, 7, none⟩ = some (.int .i64 a0_7) := (zK BK1207.out 7).trans rfl; have hcz15_8 : w14.cell? ⟨gb1207, 8, none⟩ = some (.bool a0_8) := (zK BK1207.out 8).trans rfl; have hcz15_9 : w14.cell? ⟨gb1207, 9, none⟩ = some (.int .i64 a0_9) := (zK BK1207.out 9).trans rfl; have hcz15_10 : w14.cell? ⟨gb1207, 10, none⟩ = some (.int .i64 a0_10) := (zK BK1207.out 10).trans rfl))
    go_ret
    exact ⟨by first | rfl | (simp [errW_none, errW_some] <;> rfl) | (simp [*, errW_none, errW_some] <;> rfl), by repeat (first | (with_reducible first | exact HB.out | apply zC | apply zB | apply zF | refine zE ?_ GE1207.out) | exact HB.out)⟩
  ·replace c4 := Bool.eq_false_iff.mpr c4
   subst c4
   have H1 : (some false) = some r := by rw [if_neg (show ¬ (false = true) by decide)] at H; exact H
   clear H
   have H := H1
   clear H1
   obtain rfl := Option.some.inj H
   go_enter Try.func42, Try.ntmps42
   go_wp2_with (first | ((with_reducible refine gate_dst (N := 1) rfl ?_); refine box_event ?hg (N := 1) ?hd (cs := #[.int .i64 a0_0, .int .i64 a0_1, .int .i64 a0_2, .int .i64 a0_3, .slice A0_4 l0_4.length c0_4, .int .i64 a0_5, .slice A0_6 l0_6.length c0_6, .int .i64 a0_7, .bool a0_8, .int .i64 a0_9, .int .i64 a0_10]) (t := 86) ?hr ?_; (case hd => rfl); (case hg => rfl); (case hr => first | (go_simp; done) | (go_simp; rfl)); intro gb1207 hg w16 hbox hb; have n0_ := zA (below_step (by repeat (first | (with_reducible first | exact HB.out | apply zC | apply zB | apply zF) | exact HB.out)) hb); have n1_ := zA (hbox); have n2_ := zA ((by rw [hg]; exact (zL (by repeat (first | (with_reducible first | exact HB.out | apply zC | apply zB | apply zF) | exact HB.out))) : w.heap.size ≤ gb1207)); have n3_ := zA ((by rw [hg]; exact (zL (by repeat (first | (with_reducible first | exact HB.out | apply zC | apply zB | apply zF) | exact HB.out))) : w.heap.size ≤ gb1207)); clear HB; have HB := n0_; have BK1207 := n1_; have GW1207 := n2_; have GE1207 := n3_; clear n0_ n1_ n2_ n3_; clear hb hbox hg; have hcz17_0 : w16.cell? ⟨gb1207, 0, none⟩ = some (.int .i64 a0_0) := (zK BK1207.out 0).trans rfl; have hcz17_1 : w16.cell? ⟨gb1207, 1, none⟩ = some (.int .i64 a0_1) := (zK BK1207.out 1).trans rfl; have hcz17_2 : w16.cell? ⟨gb1207, 2, none⟩ = some (.int .i64 a0_2) := (zK BK1207.out 2).trans rfl; have hcz17_3 : w16.cell? ⟨gb1207, 3, none⟩ = some (.int .i64 a0_3) := (zK BK1207.out 3).trans rfl; have hcz17_4 : w16.cell? ⟨gb1207, 4, none⟩ = some (.slice A0_4 l0_4.length c0_4) := (zK BK1207.out 4).trans rfl; have hcz17_5 : w16.cell? ⟨gb1207, 5, none⟩ = some (.int .i64 a0_5) := (zK BK1207.out 5).trans rfl; have hcz17_6 : w16.cell? ⟨gb1207, 6, none⟩ = some (.slice A0_6 l0_6.length c0_6) := (zK BK1207.out 6).trans rfl; have hcz17_7 : w16.cell? ⟨gb1207, 7, none⟩ = some (.int .i64 a0_7) := (zK BK1207.out 7).trans rfl; have hcz17_8 : w16.cell? ⟨gb1207, 8, none⟩ = some (.bool a0_8) := (zK BK1207.out 8).trans rfl; have hcz17_9 : w16.cell? ⟨gb1207, 9, none⟩ = some (.int .i64 a0_9) := (zK BK1207.out 9).trans rfl; have hcz17_10 : w16.cell? ⟨gb1207, 10, none⟩ = some (.int .i64 a0_10) := (zK BK1207.out 10).trans rfl) | (go_at_call 91; (refine (spec_l22Same.calls k _ _ l0_6 a0_7 a0_8 a0_9 a0_10 _ _ ([] : List Int) 0 false 0 0 false _ ?side1 ?side2 ?side3 ?side4 A2.out).mono ?_); (case side1 => repeat (first | exact (Kd.C_below HR0_6.out HB.out) | (with_reducible refine yH ?_ _) | (with_reducible refine yF ?_ _) | (with_reducible refine yG ?_))); (case side2 => exact HC0_6.out); (case side3 => exact Kd.C_nil _ _); (case side4 => exact Nat.le_refl _); rintro e w18 ⟨rfl, hb⟩; have n0_ := zA (blk_below (g := gb1207) (o := .cells #[.int .i64 a0_0, .int .i64 a0_1, .int .i64 a0_2, .int .i64 a0_3, .slice A0_4 l0_4.length c0_4, .int .i64 a0_5, .slice A0_6 l0_6.length c0_6, .int .i64 a0_7, .bool a0_8, .int .i64 a0_9, .int .i64 a0_10] 86 (0, 0)) (by (with_reducible repeat (first | refine zG ?_ _ | refine zH ?_ | refine zD ?_ _)); exact BK1207.out) hb); have n1_ := zA (below_step (by repeat (first | (with_reducible first | exact HB.out | apply zC | apply zB | apply zF | refine zE ?_ GE1207.out) | exact HB.out)) hb); clear BK1207; clear HB; have BK1207 := n0_; have HB := n1_; clear n0_ n1_; (try clear hb); (try clear hb2); (try clear hk); (try clear hi); have hcz19_0 : w18.cell? ⟨gb1207, 0, none⟩ = some (.int .i64 a0_0) := (zK BK1207.out 0).trans rfl; have hcz19_1 : w18.cell? ⟨gb1207, 1, none⟩ = some (.int .i64 a0_1) := (zK BK1207.out 1).trans rfl; have hcz19_2 : w18.cell? ⟨gb1207, 2, none⟩ = some (.int .i64 a0_2) := (zK BK1207.out 2).trans rfl; have hcz19_3 : w18.cell? ⟨gb1207, 3, none⟩ = some (.int .i64 a0_3) := (zK BK1207.out 3).trans rfl; have hcz19_4 : w18.cell? ⟨gb1207, 4, none⟩ = some (.slice A0_4 l0_4.length c0_4) := (zK BK1207.out 4).trans rfl; have hcz19_5 : w18.cell? ⟨gb1207, 5, none⟩ = some (.int .i64 a0_5) := (zK BK1207.out 5).trans rfl; have hcz19_6 : w18.cell? ⟨gb1207, 6, none⟩ = some (.slice A0_6 l0_6.length c0_6) := (zK BK1207.out 6).trans rfl; have hcz19_7 : w18.cell? ⟨gb1207, 7, none⟩ = some (.int .i64 a0_7) := (zK BK1207.out 7).trans rfl; have hcz19_8 : w18.cell? ⟨gb1207, 8, none⟩ = some (.bool a0_8) := (zK BK1207.out 8).trans rfl; have hcz19_9 : w18.cell? ⟨gb1207, 9, none⟩ = some (.int .i64 a0_9) := (zK BK1207.out 9).trans rfl; have hcz19_10 : w18.cell? ⟨gb1207, 10, none⟩ = some (.int .i64 a0_10) := (zK BK1207.out 10).trans rfl))
   go_ret
   exact ⟨by first | rfl | (simp [errW_none, errW_some] <;> rfl) | (simp [*, errW_none, errW_some] <;> rfl), by repeat (first | (with_reducible first | exact HB.out | apply zC | apply zB | apply zF | refine zE ?_ GE1207.out) | exact HB.out)⟩
 ·rw [if_neg c3] at H
  have c3b0 : (a0_0 == 0) = false := beq_eq_false_iff_ne.mpr c3
  have c3b1 : (a0_0 != 0) = true := bne_iff_ne.mpr c3
  have HC20 := zA H
  clear H
  go_enter Try.func42, Try.ntmps42
  go_upto_if 24 with (first | ((with_reducible refine gate_dst (N := 1) rfl ?_); refine box_event ?hg (N := 1) ?hd (cs := #[.int .i64 a0_0, .int .i64 a0_1, .int .i64 a0_2, .int .i64 a0_3, .slice A0_4 l0_4.length c0_4, .int .i64 a0_5, .slice A0_6 l0_6.length c0_6, .int .i64 a0_7, .bool a0_8, .int .i64 a0_9, .int .i64 a0_10]) (t := 86) ?hr ?_; (case hd => rfl); (case hg => rfl); (case hr => first | (go_simp; done) | (go_simp; rfl)); intro gb1207 hg w21 hbox hb; have n0_ := zA (below_step (by repeat (first | (with_reducible first | exact HB.out | apply zC | apply zB | apply zF) | exact HB.out)) hb); have n1_ := zA (hbox); have n2_ := zA ((by rw [hg]; exact (zL (by repeat (first | (with_reducible first | exact HB.out | apply zC | apply zB | apply zF) | exact HB.out))) : w.heap.size ≤ gb1207)); have n3_ := zA ((by rw [hg]; exact (zL (by repeat (first | (with_reducible first | exact HB.out | apply zC | apply zB | apply zF) | exact HB.out))) : w.heap.size ≤ gb1207)); clear HB; have HB := n0_; have BK1207 := n1_; have GW1207 := n2_; have GE1207 := n3_; clear n0_ n1_ n2_ n3_; clear hb hbox hg; have hcz22_0 : w21.cell? ⟨gb1207, 0, none⟩ = some (.int .i64 a0_0) := (zK BK1207.out 0).trans rfl; have hcz22_1 : w21.cell? ⟨gb1207, 1, none⟩ = some (.int .i64 a0_1) := (zK BK1207.out 1).trans rfl; have hcz22_2 : w21.cell? ⟨gb1207, 2, none⟩ = some (.int .i64 a0_2) := (zK BK1207.out 2).trans rfl; have hcz22_3 : w21.cell? ⟨gb1207, 3, none⟩ = some (.int .i64 a0_3) := (zK BK1207.out 3).trans rfl; have hcz22_4 : w21.cell? ⟨gb1207, 4, none⟩ = some (.slice A0_4 l0_4.length c0_4) := (zK BK1207.out 4).trans rfl; have hcz22_5 : w21.cell? ⟨gb1207, 5, none⟩ = some (.int .i64 a0_5) := (zK BK1207.out 5).trans rfl; have hcz22_6 : w21.cell? ⟨gb1207, 6, none⟩ = some (.slice A0_6 l0_6.length c0_6) := (zK BK1207.out 6).trans rfl; have hcz22_7 : w21.cell? ⟨gb1207, 7, none⟩ = some (.int .i64 a0_7) := (zK BK1207.out 7).trans rfl; have hcz22_8 : w21.cell? ⟨gb1207, 8, none⟩ = some (.bool a0_8) := (zK BK1207.out 8).trans rfl; have hcz22_9 : w21.cell? ⟨gb1207, 9, none⟩ = some (.int .i64 a0_9) := (zK BK1207.out 9).trans rfl; have hcz22_10 : w21.cell? ⟨gb1207, 10, none⟩ = some (.int .i64 a0_10) := (zK BK1207.out 10).trans rfl) | (go_at_call 91; (refine (spec_l22Same.calls k _ _ l0_6 a0_7 a0_8 a0_9 a0_10 _ _ ([] : List Int) 0 false 0 0 t1208 _ ?side1 ?side2 ?side3 ?side4 A2.out).mono ?_); (case side1 => repeat (first | exact (Kd.C_below HR0_6.out HB.out) | (with_reducible refine yH ?_ _) | (with_reducible refine yF ?_ _) | (with_reducible refine yG ?_))); (case side2 => exact HC0_6.out); (case side3 => exact Kd.C_nil _ _); (case side4 => exact Nat.le_refl _); rintro e w23 ⟨rfl, hb⟩; have n0_ := zA (blk_below (g := gb1207) (o := .cells #[.int .i64 a0_0, .int .i64 a0_1, .int .i64 a0_2, .int .i64 a0_3, .slice A0_4 l0_4.length c0_4, .int .i64 a0_5, .slice A0_6 l0_6.length c0_6, .int .i64 a0_7, .bool a0_8, .int .i64 a0_9, .int .i64 a0_10] 86 (0, 0)) (by (with_reducible repeat (first | refine zG ?_ _ | refine zH ?_ | refine zD ?_ _)); exact BK1207.out) hb); have n1_ := zA (below_step (by repeat (first | (with_reducible first | exact HB.out | apply zC | apply zB | apply zF | refine zE ?_ GE1207.out) | exact HB.out)) hb); clear BK1207; clear HB; have BK1207 := n0_; have HB := n1_; clear n0_ n1_; (try clear hb); (try clear hb2); (try clear hk); (try clear hi); have hcz24_0 : w23.cell? ⟨gb1207, 0, none⟩ = some (.int .i64 a0_0) := (zK BK1207.out 0).trans rfl; have hcz24_1 : w23.cell? ⟨gb1207, 1, none⟩ = some (.int .i64 a0_1) := (zK BK1207.out 1).trans rfl; have hcz24_2 : w23.cell? ⟨gb1207, 2, none⟩ = some (.int .i64 a0_2) := (zK BK1207.out 2).trans rfl; have hcz24_3 : w23.cell? ⟨gb1207, 3, none⟩ = some (.int .i64 a0_3) := (zK BK1207.out 3).trans rfl; have hcz24_4 : w23.cell? ⟨gb1207, 4, none⟩ = some (.slice A0_4 l0_4.length c0_4) := (zK BK1207.out 4).trans rfl; have hcz24_5 : w23.cell? ⟨gb1207, 5, none⟩ = some (.int .i64 a0_5) := (zK BK1207.out 5).trans rfl; have hcz24_6 : w23.cell? ⟨gb1207, 6, none⟩ = some (.slice A0_6 l0_6.length c0_6) := (zK BK1207.out 6).trans rfl; have hcz24_7 : w23.cell? ⟨gb1207, 7, none⟩ = some (.int .i64 a0_7) := (zK BK1207.out 7).trans rfl; have hcz24_8 : w23.cell? ⟨gb1207, 8, none⟩ = some (.bool a0_8) := (zK BK1207.out 8).trans rfl; have hcz24_9 : w23.cell? ⟨gb1207, 9, none⟩ = some (.int .i64 a0_9) := (zK BK1207.out 9).trans rfl; have hcz24_10 : w23.cell? ⟨gb1207, 10, none⟩ = some (.int .i64 a0_10) := (zK BK1207.out 10).trans rfl))
  (try simp only [Act.put, List.setIfInBounds_toArray, List.set_cons_zero, List.set_cons_succ])
  go_cut [24] (fun v24 wc => ∃ (kq : Nat) (x24_19 : Bool), v24 = .bool x24_19 ∧ Aside0 (spec_DeskOk.j0 kq t1208 a0_0 x24_19 a0_0 a0_1 a0_2 a0_3 l0_4 a0_5 l0_6 a0_7 a0_8 a0_9 a0_10 = some r) ∧ Aside0 (kq ≤ k) ∧ Aside0 (wc.heap[gb1207]? = some (.cells #[.int .i64 a0_0, .int .i64 a0_1, .int .i64 a0_2, .int .i64 a0_3, (.slice A0_4 l0_4.length c0_4), .int .i64 a0_5, (.slice A0_6 l0_6.length c0_6), .int .i64 a0_7, .bool a0_8, .int .i64 a0_9, .int .i64 a0_10] 86 (0, 0))) ∧ Aside0 (Below w.heap.size w wc))
  case first =>
   have H := HC20.out
   clear HC20
   by_cases c25 : a0_0 = 1
   ·rw [if_pos c25] at H
    have c25b0 : (a0_0 == 1) = true := beq_iff_eq.mpr c25
    have c25b1 : (a0_0 != 1) = false := bne_eq_false_iff_eq.mpr c25
    clear c25
    (first | rw [c25b0] | (simp only [i64_w, i32_w]; rw [c25b0]) | skip)
    have H' := zA H
    clear H
    go_wp2
    repeat (go_quiet (fail); try go_wp2)
    go_meet
    case rel => exact ⟨_, ((a0_0 == 1)), (by first | rfl | (simp; done) | (simp [*]; done)), H', ⟨by first | omega | exact Nat.le_refl _⟩, ⟨by (with_reducible repeat (first | refine zG ?_ _ | refine zH ?_ | refine zD ?_ _)); exact BK1207.out⟩, ⟨by repeat (first | (with_reducible first | exact HB.out | apply zC | apply zB | apply zF | refine zE ?_ GE1207.out) | exact HB.out)⟩⟩
   ·rw [if_neg c25] at H
    have c25b0 : (a0_0 == 1) = false := beq_eq_false_iff_ne.mpr c25
    have c25b1 : (a0_0 != 1) = true := bne_iff_ne.mpr c25
    (first | rw [c25b0] | (simp only [i64_w, i32_w]; rw [c25b0]) | skip)
    have H' := zA H
    clear H
    go_wp2
    repeat (go_quiet (fail); try go_wp2)
    go_meet
    case rel => exact ⟨_, ((a0_0 == 3)), (by first | rfl | (simp; done) | (simp [*]; done)), H', ⟨by first | omega | exact Nat.le_refl _⟩, ⟨by (with_reducible repeat (first | refine zG ?_ _ | refine zH ?_ | refine zD ?_ _)); exact BK1207.out⟩, ⟨by repeat (first | (with_reducible first | exact HB.out | apply zC | apply zB | apply zF | refine zE ?_ GE1207.out) | exact HB.out)⟩⟩
  case rest =>
   clear HC20
   try clear c3
   try clear c3b0
   try clear c3b1
   try clear hcz22_0
   try clear hcz22_1
   try clear hcz22_10
   try clear hcz22_2
   try clear hcz22_3
   try clear hcz22_4
   try clear hcz22_5
   try clear hcz22_6
   try clear hcz22_7
   try clear hcz22_8
   try clear hcz22_9
   try clear hcz24_0
   try clear hcz24_1
   try clear hcz24_10
   try clear hcz24_2
   try clear hcz24_3
   try clear hcz24_4
   try clear hcz24_5
   try clear hcz24_6
   try clear hcz24_7
   try clear hcz24_8
   try clear hcz24_9
   try clear hfz22_0
   try clear hfz22_1
   try clear hfz22_10
   try clear hfz22_2
   try clear hfz22_3
   try clear hfz22_4
   try clear hfz22_5
   try clear hfz22_6
   try clear hfz22_7
   try clear hfz22_8
   try clear hfz22_9
   try clear hfz24_0
   try clear hfz24_1
   try clear hfz24_10
   try clear hfz24_2
   try clear hfz24_3
   try clear hfz24_4
   try clear hfz24_5
   try clear hfz24_6
   try clear hfz24_7
   try clear hfz24_8
   try clear hfz24_9
   obtain ⟨kq, x24_19, rfl, HA, HJ19, BK1207, HB⟩ := hcut
   cases kq with
   | zero => exact absurd HA.out (by simp [spec_DeskOk.j0])
   | succ kj19 =>
    have H := HA.out
    clear HA
    simp only [spec_DeskOk.j0] at H
    by_cases c26 : x24_19 = true
    ·subst c26
     have H1 : (if t1208 = true then ((spec_PictureOk.f kj19 a0_1 a0_2 a0_3 l0_4).bind fun t1210 => (if t1210 = true then ((spec_l01Between.f a0_5 0 a0_3).bind fun t1211 => (spec_DeskOk.j1 kj19 (!t1211) a0_0 a0_1 a0_2 a0_3 l0_4 a0_5 l0_6 a0_7 a0_8 a0_9 a0_10)) else (spec_DeskOk.j1 kj19 true a0_0 a0_1 a0_2 a0_3 l0_4 a0_5 l0_6 a0_7 a0_8 a0_9 a0_10))) else (spec_DeskOk.j1 kj19 true a0_0 a0_1 a0_2 a0_3 l0_4 a0_5 l0_6 a0_7 a0_8 a0_9 a0_10)) = some r := by rw [if_pos rfl] at H; exact H
     clear H
     have H := H1
     clear H1
     have HC27 := zA H
     clear H
     go_upto_region 7 with (fail)
     repeat (go_quiet (fail); go_upto_region 7 with (fail))
     go_cut [43] (fun v43 wc => ∃ (kq : Nat) (x43_26 : Bool), v43 = .bool x43_26 ∧ Aside0 (spec_DeskOk.j1 kq x43_26 a0_0 a0_1 a0_2 a0_3 l0_4 a0_5 l0_6 a0_7 a0_8 a0_9 a0_10 = some r) ∧ Aside0 (kq ≤ kj19) ∧ Aside0 (wc.heap[gb1207]? = some (.cells #[.int .i64 a0_0, .int .i64 a0_1, .int .i64 a0_2, .int .i64 a0_3, (.slice A0_4 l0_4.length c0_4), .int .i64 a0_5, (.slice A0_6 l0_6.length c0_6), .int .i64 a0_7, .bool a0_8, .int .i64 a0_9, .int .i64 a0_10] 86 (0, 0))) ∧ Aside0 (Below w.heap.size w wc))
     case first =>
      have H := HC27.out
      clear HC27
      by_cases c28 : t1208 = true
      ·subst c28
       have H1 : ((spec_PictureOk.f kj19 a0_1 a0_2 a0_3 l0_4).bind fun t1210 => (if t1210 = true then ((spec_l01Between.f a0_5 0 a0_3).bind fun t1211 => (spec_DeskOk.j1 kj19 (!t1211) a0_0 a0_1 a0_2 a0_3 l0_4 a0_5 l0_6 a0_7 a0_8 a0_9 a0_10)) else (spec_DeskOk.j1 kj19 true a0_0 a0_1 a0_2 a0_3 l0_4 a0_5 l0_6 a0_7 a0_8 a0_9 a0_10))) = some r := by rw [if_pos rfl] at H; exact H
       clear H
       have H := H1
       clear H1
       replace H := Option.bind_eq_some_iff.mp H
       obtain ⟨t1210, A290, H⟩ := H
       replace H : (if t1210 = true then ((spec_l01Between.f a0_5 0 a0_3).bind fun t1211 => (spec_DeskOk.j1 kj19 (!t1211) a0_0 a0_1 a0_2 a0_3 l0_4 a0_5 l0_6 a0_7 a0_8 a0_9 a0_10)) else (spec_DeskOk.j1 kj19 true a0_0 a0_1 a0_2 a0_3 l0_4 a0_5 l0_6 a0_7 a0_8 a0_9 a0_10)) = some r := H
       have A29 := zA A290
       clear A290
       by_cases c30 : t1210 = true
       ·subst c30
        have H1 : ((spec_l01Between.f a0_5 0 a0_3).bind fun t1211 => (spec_DeskOk.j1 kj19 (!t1211) a0_0 a0_1 a0_2 a0_3 l0_4 a0_5 l0_6 a0_7 a0_8 a0_9 a0_10)) = some r := by rw [if_pos rfl] at H; exact H
        clear H
        have H := H1
        clear H1
        replace H := Option.bind_eq_some_iff.mp H
        obtain ⟨t1211, A310, H⟩ := H
        replace H : (spec_DeskOk.j1 kj19 (!t1211) a0_0 a0_1 a0_2 a0_3 l0_4 a0_5 l0_6 a0_7 a0_8 a0_9 a0_10) = some r := H
        have A31 := zA A310
        clear A310
        have H' := zA H
        clear H
        have hcz32_0 : wc.cell? ⟨gb1207, 0, none⟩ = some (.int .i64 a0_0) := (zK BK1207.out 0).trans rfl
        have hcz32_1 : wc.cell? ⟨gb1207, 1, none⟩ = some (.int .i64 a0_1) := (zK BK1207.out 1).trans rfl
        have hcz32_2 : wc.cell? ⟨gb1207, 2, none⟩ = some (.int .i64 a0_2) := (zK BK1207.out 2).trans rfl
        have hcz32_3 : wc.cell? ⟨gb1207, 3, none⟩ = some (.int .i64 a0_3) := (zK BK1207.out 3).trans rfl
        have hcz32_4 : wc.cell? ⟨gb1207, 4, none⟩ = some (.slice A0_4 l0_4.length c0_4) := (zK BK1207.out 4).trans rfl
        have hcz32_5 : wc.cell? ⟨gb1207, 5, none⟩ = some (.int .i64 a0_5) := (zK BK1207.out 5).trans rfl
        have hcz32_6 : wc.cell? ⟨gb1207, 6, none⟩ = some (.slice A0_6 l0_6.length c0_6) := (zK BK1207.out 6).trans rfl
        have hcz32_7 : wc.cell? ⟨gb1207, 7, none⟩ = some (.int .i64 a0_7) := (zK BK1207.out 7).trans rfl
        have hcz32_8 : wc.cell? ⟨gb1207, 8, none⟩ = some (.bool a0_8) := (zK BK1207.out 8).trans rfl
        have hcz32_9 : wc.cell? ⟨gb1207, 9, none⟩ = some (.int .i64 a0_9) := (zK BK1207.out 9).trans rfl
        have hcz32_10 : wc.cell? ⟨gb1207, 10, none⟩ = some (.int .i64 a0_10) := (zK BK1207.out 10).trans rfl
        go_wp2_with (first | (go_at_call 93; (with_reducible refine (spec_PictureOk.calls kj19 a0_1 a0_2 a0_3 _ _ l0_4 true _ ?side1 ?side2 A29.out).mono ?_); (case side1 => repeat (first | exact (Kd.C_below HR0_4.out HB.out) | (with_reducible refine yH ?_ _) | (with_reducible refine yF ?_ _) | (with_reducible refine yG ?_))); (case side2 => exact HC0_4.out); rintro e w33 ⟨rfl, hb⟩; have n0_ := zA (blk_below (g := gb1207) (o := .cells #[.int .i64 a0_0, .int .i64 a0_1, .int .i64 a0_2, .int .i64 a0_3, .slice A0_4 l0_4.length c0_4, .int .i64 a0_5, .slice A0_6 l0_6.length c0_6, .int .i64 a0_7, .bool a0_8, .int .i64 a0_9, .int .i64 a0_10] 86 (0, 0)) (by (with_reducible repeat (first | refine zG ?_ _ | refine zH ?_ | refine zD ?_ _)); exact BK1207.out) hb); have n1_ := zA (below_step (by repeat (first | (with_reducible first | exact HB.out | apply zC | apply zB | apply zF | refine zE ?_ GE1207.out) | exact HB.out)) hb); clear BK1207; clear HB; have BK1207 := n0_; have HB := n1_; clear n0_ n1_; (try clear hb); (try clear hb2); (try clear hk); (try clear hi); have hcz34_0 : w33.cell? ⟨gb1207, 0, none⟩ = some (.int .i64 a0_0) := (zK BK1207.out 0).trans rfl; have hcz34_1 : w33.cell? ⟨gb1207, 1, none⟩ = some (.int .i64 a0_1) := (zK BK1207.out 1).trans rfl; have hcz34_2 : w33.cell? ⟨gb1207, 2, none⟩ = some (.int .i64 a0_2) := (zK BK1207.out 2).trans rfl; have hcz34_3 : w33.cell? ⟨gb1207, 3, none⟩ = some (.int .i64 a0_3) := (zK BK1207.out 3).trans rfl; have hcz34_4 : w33.cell? ⟨gb1207, 4, none⟩ = some (.slice A0_4 l0_4.length c0_4) := (zK BK1207.out 4).trans rfl; have hcz34_5 : w33.cell? ⟨gb1207, 5, none⟩ = some (.int .i64 a0_5) := (zK BK1207.out 5).trans rfl; have hcz34_6 : w33.cell? ⟨gb1207, 6, none⟩ = some (.slice A0_6 l0_6.length c0_6) := (zK BK1207.out 6).trans rfl; have hcz34_7 : w33.cell? ⟨gb1207, 7, none⟩ = some (.int .i64 a0_7) := (zK BK1207.out 7).trans rfl; have hcz34_8 : w33.cell? ⟨gb1207, 8, none⟩ = some (.bool a0_8) := (zK BK1207.out 8).trans rfl; have hcz34_9 : w33.cell? ⟨gb1207, 9, none⟩ = some (.int .i64 a0_9) := (zK BK1207.out 9).trans rfl; have hcz34_10 : w33.cell? ⟨gb1207, 10, none⟩ = some (.int .i64 a0_10) := (zK BK1207.out 10).trans rfl) | (go_at_call 58; (with_reducible refine (spec_l01Between.calls a0_5 0 a0_3 t1211 _ A31.out).mono ?_); rintro e w' ⟨rfl, ⟨nd, rfl⟩⟩; (try first | exact ⟨rfl, _, World.drewN_drewN _ _ _⟩ | exact ⟨rfl, _, Eq.trans (World.drewN_drewN _ _ _) (congrArg (World.drewN _) (Nat.add_assoc _ _ _))⟩)))
        go_meet
        case rel => exact ⟨_, (!t1211), (by first | rfl | (simp; done) | (simp [*]; done)), H', ⟨by have := HJ19.out; first | omega | exact Nat.le_refl _⟩, ⟨by (with_reducible repeat (first | refine zG ?_ _ | refine zH ?_ | refine zD ?_ _)); exact BK1207.out⟩, ⟨by repeat (first | (with_reducible first | exact HB.out | apply zC | apply zB | apply zF | refine zE ?_ GE1207.out) | exact HB.out)⟩⟩
       ·replace c30 := Bool.eq_false_iff.mpr c30
        subst c30
        have H1 : (spec_DeskOk.j1 kj19 true a0_0 a0_1 a0_2 a0_3 l0_4 a0_5 l0_6 a0_7 a0_8 a0_9 a0_10) = some r := by rw [if_neg (show ¬ (false = true) by decide)] at H; exact H
        clear H
        have H := H1
        clear H1
        have H' := zA H
        clear H
        have hcz35_0 : wc.cell? ⟨gb1207, 0, none⟩ = some (.int .i64 a0_0) := (zK BK1207.out 0).trans rfl
        have hcz35_1 : wc.cell? ⟨gb1207, 1, none⟩ = some (.int .i64 a0_1) := (zK BK1207.out 1).trans rfl
        have hcz35_2 : wc.cell? ⟨gb1207, 2, none⟩ = some (.int .i64 a0_2) := (zK BK1207.out 2).trans rfl
        have hcz35_3 : wc.cell? ⟨gb1207, 3, none⟩ = some (.int .i64 a0_3) := (zK BK1207.out 3).trans rfl
        have hcz35_4 : wc.cell? ⟨gb1207, 4, none⟩ = some (.slice A0_4 l0_4.length c0_4) := (zK BK1207.out 4).trans rfl
        have hcz35_5 : wc.cell? ⟨gb1207, 5, none⟩ = some (.int .i64 a0_5) := (zK BK1207.out 5).trans rfl
        have hcz35_6 : wc.cell? ⟨gb1207, 6, none⟩ = some (.slice A0_6 l0_6.length c0_6) := (zK BK1207.out 6).trans rfl
        have hcz35_7 : wc.cell? ⟨gb1207, 7, none⟩ = some (.int .i64 a0_7) := (zK BK1207.out 7).trans rfl
        have hcz35_8 : wc.cell? ⟨gb1207, 8, none⟩ = some (.bool a0_8) := (zK BK1207.out 8).trans rfl
        have hcz35_9 : wc.cell? ⟨gb1207, 9, none⟩ = some (.int .i64 a0_9) := (zK BK1207.out 9).trans rfl
        have hcz35_10 : wc.cell? ⟨gb1207, 10, none⟩ = some (.int .i64 a0_10) := (zK BK1207.out 10).trans rfl
        go_wp2_with (first | (go_at_call 93; (with_reducible refine (spec_PictureOk.calls kj19 a0_1 a0_2 a0_3 _ _ l0_4 false _ ?side1 ?side2 A29.out).mono ?_); (case side1 => repeat (first | exact (Kd.C_below HR0_4.out HB.out) | (with_reducible refine yH ?_ _) | (with_reducible refine yF ?_ _) | (with_reducible refine yG ?_))); (case side2 => exact HC0_4.out); rintro e w36 ⟨rfl, hb⟩; have n0_ := zA (blk_below (g := gb1207) (o := .cells #[.int .i64 a0_0, .int .i64 a0_1, .int .i64 a0_2, .int .i64 a0_3, .slice A0_4 l0_4.length c0_4, .int .i64 a0_5, .slice A0_6 l0_6.length c0_6, .int .i64 a0_7, .bool a0_8, .int .i64 a0_9, .int .i64 a0_10] 86 (0, 0)) (by (with_reducible repeat (first | refine zG ?_ _ | refine zH ?_ | refine zD ?_ _)); exact BK1207.out) hb); have n1_ := zA (below_step (by repeat (first | (with_reducible first | exact HB.out | apply zC | apply zB | apply zF | refine zE ?_ GE1207.out) | exact HB.out)) hb); clear BK1207; clear HB; have BK1207 := n0_; have HB := n1_; clear n0_ n1_; (try clear hb); (try clear hb2); (try clear hk); (try clear hi)))
        go_meet
        case rel => exact ⟨_, (true), (by first | rfl | (simp; done) | (simp [*]; done)), H', ⟨by have := HJ19.out; first | omega | exact Nat.le_refl _⟩, ⟨by (with_reducible repeat (first | refine zG ?_ _ | refine zH ?_ | refine zD ?_ _)); exact BK1207.out⟩, ⟨by repeat (first | (with_reducible first | exact HB.out | apply zC | apply zB | apply zF | refine zE ?_ GE1207.out) | exact HB.out)⟩⟩
      ·replace c28 := Bool.eq_false_iff.mpr c28
       subst c28
       have H1 : (spec_DeskOk.j1 kj19 true a0_0 a0_1 a0_2 a0_3 l0_4 a0_5 l0_6 a0_7 a0_8 a0_9 a0_10) = some r := by rw [if_neg (show ¬ (false = true) by decide)] at H; exact H
       clear H
       have H := H1
       clear H1
       have H' := zA H
       clear H
       go_wp2
       repeat (go_quiet (fail); try go_wp2)
       go_meet
       case rel => exact ⟨_, (true), (by first | rfl | (simp; done) | (simp [*]; done)), H', ⟨by have := HJ19.out; first | omega | exact Nat.le_refl _⟩, ⟨by (with_reducible repeat (first | refine zG ?_ _ | refine zH ?_ | refine zD ?_ _)); exact BK1207.out⟩, ⟨by repeat (first | (with_reducible first | exact HB.out | apply zC | apply zB | apply zF | refine zE ?_ GE1207.out) | exact HB.out)⟩⟩
     case rest =>
      clear HC27
      obtain ⟨kq, x43_26, rfl, HA, HJ26, BK1207, HB⟩ := hcut
      cases kq with
      | zero => exact absurd HA.out (by simp [spec_DeskOk.j1])
      | succ kj26 =>
       have H := HA.out
       clear HA
       simp only [spec_DeskOk.j1] at H
       by_cases c37 : x43_26 = true
       ·subst c37
        have H1 : (some false) = some r := by rw [if_pos rfl] at H; exact H
        clear H
        have H := H1
        clear H1
        obtain rfl := Option.some.inj H
        go_wp2
        repeat (go_quiet (fail); try go_wp2)
        go_ret
        exact ⟨by first | rfl | (simp [errW_none, errW_some] <;> rfl) | (simp [*, errW_none, errW_some] <;> rfl), by repeat (first | (with_reducible first | exact HB.out | apply zC | apply zB | apply zF | refine zE ?_ GE1207.out) | exact HB.out)⟩
       ·replace c37 := Bool.eq_false_iff.mpr c37
        subst c37
        have H1 : (spec_DeskOk.l0 kj26 0 a0_0 a0_1 a0_2 a0_3 l0_4 a0_5 l0_6 a0_7 a0_8 a0_9 a0_10) = some r := by rw [if_neg (show ¬ (false = true) by decide)] at H; exact H
        clear H
        have H := H1
        clear H1
        have H' := zA H
        clear H
        go_wp2
        repeat (go_quiet (fail); try go_wp2)
        go_loopg [4] kj26 (fun kq v4 w' => ∃ (x4_3 : Int), v4 = .int .i64 x4_3 ∧ Aside0 (spec_DeskOk.l0 kq x4_3 a0_0 a0_1 a0_2 a0_3 l0_4 a0_5 l0_6 a0_7 a0_8 a0_9 a0_10 = some r) ∧ Aside0 (kq ≤ kj26) ∧ Aside0 (w'.heap[gb1207]? = some (.cells #[.int .i64 a0_0, .int .i64 a0_1, .int .i64 a0_2, .int .i64 a0_3, (.slice A0_4 l0_4.length c0_4), .int .i64 a0_5, (.slice A0_6 l0_6.length c0_6), .int .i64 a0_7, .bool a0_8, .int .i64 a0_9, .int .i64 a0_10] 86 (0, 0))) ∧ Aside0 (Below w.heap.size w w'))
        case atStart => exact ⟨(0), (by first | rfl | (simp; done) | (simp [*]; done)), H', ⟨Nat.le_refl _⟩, ⟨by (with_reducible repeat (first | refine zG ?_ _ | refine zH ?_ | refine zD ?_ _)); exact BK1207.out⟩, ⟨by repeat (first | (with_reducible first | exact HB.out | apply zC | apply zB | apply zF | refine zE ?_ GE1207.out) | exact HB.out)⟩⟩
        case round =>
         clear H'
         obtain ⟨x4_3, rfl, HA, HK3, BK1207, HB⟩ := hrel
         cases gk with
         | zero => exact absurd HA.out (by simp [spec_DeskOk.l0])
         | succ k3 =>
          have H := HA.out
          clear HA
          simp only [spec_DeskOk.l0] at H
          have HC38 := zA H
          clear H
          go_upto_region 10 with (fail)
          repeat (go_quiet (fail); go_upto_region 10 with (fail))
          go_cut [54] (fun v54 wc => ∃ (kq : Nat) (x54_37 : Bool), v54 = .bool x54_37 ∧ Aside0 (spec_DeskOk.j3 kq x4_3 x54_37 a0_0 a0_1 a0_2 a0_3 l0_4 a0_5 l0_6 a0_7 a0_8 a0_9 a0_10 = some r) ∧ Aside0 (kq ≤ k3) ∧ Aside0 (wc.heap[gb1207]? = some (.cells #[.int .i64 a0_0, .int .i64 a0_1, .int .i64 a0_2, .int .i64 a0_3, (.slice A0_4 l0_4.length c0_4), .int .i64 a0_5, (.slice A0_6 l0_6.length c0_6), .int .i64 a0_7, .bool a0_8, .int .i64 a0_9, .int .i64 a0_10] 86 (0, 0))) ∧ Aside0 (Below w.heap.size w wc))
          case first =>
           have H := HC38.out
           clear HC38
           by_cases c39 : x4_3 < (l0_4.length : Int)
           ·rw [if_pos c39] at H
            have c39b0 : decide (x4_3 < (l0_4.length : Int)) = true := zT c39
            clear c39
            (first | rw [c39b0] | (simp only [i64_w, i32_w]; rw [c39b0]) | skip)
            have H' := zA H
            clear H
            have hcz40_0 : wr.cell? ⟨gb1207, 0, none⟩ = some (.int .i64 a0_0) := (zK BK1207.out 0).trans rfl
            have hcz40_1 : wr.cell? ⟨gb1207, 1, none⟩ = some (.int .i64 a0_1) := (zK BK1207.out 1).trans rfl
            have hcz40_2 : wr.cell? ⟨gb1207, 2, none⟩ = some (.int .i64 a0_2) := (zK BK1207.out 2).trans rfl
            have hcz40_3 : wr.cell? ⟨gb1207, 3, none⟩ = some (.int .i64 a0_3) := (zK BK1207.out 3).trans rfl
            have hcz40_4 : wr.cell? ⟨gb1207, 4, none⟩ = some (.slice A0_4 l0_4.length c0_4) := (zK BK1207.out 4).trans rfl
            have hcz40_5 : wr.cell? ⟨gb1207, 5, none⟩ = some (.int .i64 a0_5) := (zK BK1207.out 5).trans rfl
            have hcz40_6 : wr.cell? ⟨gb1207, 6, none⟩ = some (.slice A0_6 l0_6.length c0_6) := (zK BK1207.out 6).trans rfl
            have hcz40_7 : wr.cell? ⟨gb1207, 7, none⟩ = some (.int .i64 a0_7) := (zK BK1207.out 7).trans rfl
            have hcz40_8 : wr.cell? ⟨gb1207, 8, none⟩ = some (.bool a0_8) := (zK BK1207.out 8).trans rfl
            have hcz40_9 : wr.cell? ⟨gb1207, 9, none⟩ = some (.int .i64 a0_9) := (zK BK1207.out 9).trans rfl
            have hcz40_10 : wr.cell? ⟨gb1207, 10, none⟩ = some (.int .i64 a0_10) := (zK BK1207.out 10).trans rfl
            go_wp2
            repeat (go_quiet (fail); try go_wp2)
            go_meet
            case rel => exact ⟨_, ((a0_0 == 1)), (by first | rfl | (simp; done) | (simp [*]; done)), H', ⟨by have := HJ19.out; have := HJ26.out; have := HK3.out; first | omega | exact Nat.le_refl _⟩, ⟨by (with_reducible repeat (first | refine zG ?_ _ | refine zH ?_ | refine zD ?_ _)); exact BK1207.out⟩, ⟨by repeat (first | (with_reducible first | exact HB.out | apply zC | apply zB | apply zF | refine zE ?_ GE1207.out) | exact HB.out)⟩⟩
           ·rw [if_neg c39] at H
            have c39b0 : decide (x4_3 < (l0_4.length : Int)) = false := decide_eq_false c39
            clear c39
            (first | rw [c39b0] | (simp only [i64_w, i32_w]; rw [c39b0]) | skip)
            have H' := zA H
            clear H
            have hcz41_0 : wr.cell? ⟨gb1207, 0, none⟩ = some (.int .i64 a0_0) := (zK BK1207.out 0).trans rfl
            have hcz41_1 : wr.cell? ⟨gb1207, 1, none⟩ = some (.int .i64 a0_1) := (zK BK1207.out 1).trans rfl
            have hcz41_2 : wr.cell? ⟨gb1207, 2, none⟩ = some (.int .i64 a0_2) := (zK BK1207.out 2).trans rfl
            have hcz41_3 : wr.cell? ⟨gb1207, 3, none⟩ = some (.int .i64 a0_3) := (zK BK1207.out 3).trans rfl
            have hcz41_4 : wr.cell? ⟨gb1207, 4, none⟩ = some (.slice A0_4 l0_4.length c0_4) := (zK BK1207.out 4).trans rfl
            have hcz41_5 : wr.cell? ⟨gb1207, 5, none⟩ = some (.int .i64 a0_5) := (zK BK1207.out 5).trans rfl
            have hcz41_6 : wr.cell? ⟨gb1207, 6, none⟩ = some (.slice A0_6 l0_6.length c0_6) := (zK BK1207.out 6).trans rfl
            have hcz41_7 : wr.cell? ⟨gb1207, 7, none⟩ = some (.int .i64 a0_7) := (zK BK1207.out 7).trans rfl
            have hcz41_8 : wr.cell? ⟨gb1207, 8, none⟩ = some (.bool a0_8) := (zK BK1207.out 8).trans rfl
            have hcz41_9 : wr.cell? ⟨gb1207, 9, none⟩ = some (.int .i64 a0_9) := (zK BK1207.out 9).trans rfl
            have hcz41_10 : wr.cell? ⟨gb1207, 10, none⟩ = some (.int .i64 a0_10) := (zK BK1207.out 10).trans rfl
            go_wp2
            repeat (go_quiet (fail); try go_wp2)
            go_meet
            case rel => exact ⟨_, (false), (by first | rfl | (simp; done) | (simp [*]; done)), H', ⟨by have := HJ19.out; have := HJ26.out; have := HK3.out; first | omega | exact Nat.le_refl _⟩, ⟨by (with_reducible repeat (first | refine zG ?_ _ | refine zH ?_ | refine zD ?_ _)); exact BK1207.out⟩, ⟨by repeat (first | (with_reducible first | exact HB.out | apply zC | apply zB | apply zF | refine zE ?_ GE1207.out) | exact HB.out)⟩⟩
          case rest =>
           clear HC38
           obtain ⟨kq, x54_37, rfl, HA, HJ37, BK1207, HB⟩ := hcut
           cases kq with
           | zero => exact absurd HA.out (by simp [spec_DeskOk.j3])
           | succ kj37 =>
            have H := HA.out
            clear HA
            simp only [spec_DeskOk.j3] at H
            by_cases c42 : x54_37 = true
            ·subst c42
             have H1 : (if 0 ≤ x4_3 then (if x4_3 < (l0_4.length : Int) then (if 0 ≤ (wrap64 (a0_5 * a0_2)) then (if (wrap64 (a0_5 * a0_2)) ≤ ((rd_L3 l0_4 x4_3).length : Int) then ((spec_l11Zero.f kj37 ((rd_L3 l0_4 x4_3).drop ((wrap64 (a0_5 * a0_2)) : Int).toNat)).bind fun t1214 => (if t1214 = true then (spec_DeskOk.l0 kj37 (wrap64 (x4_3 + 1)) a0_0 a0_1 a0_2 a0_3 l0_4 a0_5 l0_6 a0_7 a0_8 a0_9 a0_10) else (some false))) else (none)) else (none)) else (none)) else (none)) = some r := by rw [if_pos rfl] at H; exact H
             clear H
             have H := H1
             clear H1
             by_cases c43 : 0 ≤ x4_3
             ·rw [if_pos c43] at H
              have c43b0 : decide (0 ≤ x4_3) = true := zT c43
              clear c43
              by_cases c44 : x4_3 < (l0_4.length : Int)
              ·rw [if_pos c44] at H
               have c44b0 : decide (x4_3 < (l0_4.length : Int)) = true := zT c44
               clear c44
               obtain ⟨ji45, hji45⟩ : ∃ j_ : Int, (wrap64 (a0_5 * a0_2)) = j_ := ⟨_, rfl⟩
               replace H : (if 0 ≤ (ji45) then (if (ji45) ≤ ((rd_L3 l0_4 x4_3).length : Int) then ((spec_l11Zero.f kj37 ((rd_L3 l0_4 x4_3).drop ((ji45) : Int).toNat)).bind fun t1214 => (if t1214 = true then (spec_DeskOk.l0 kj37 (wrap64 (x4_3 + 1)) a0_0 a0_1 a0_2 a0_3 l0_4 a0_5 l0_6 a0_7 a0_8 a0_9 a0_10) else (some false))) else (none)) else (none)) = some r := by first | (rw [hji45] at H; exact H) | (simp only [hji45] at H ⊢; exact H)
               have hji45w : (IntKind.i64.wrap (a0_5 * a0_2)) = ji45 := (i64_w _).trans hji45
               by_cases c46 : 0 ≤ (ji45)
               ·rw [if_pos c46] at H
                have c46b0 := eq_true c46
                have c46b1 : decide (0 ≤ (ji45)) = true := zT c46
                clear c46
                by_cases c47 : (ji45) ≤ ((rd_L3 l0_4 x4_3).length : Int)
                ·rw [if_pos c47] at H
                 have c47b0 := eq_true c47
                 have c47b1 : decide ((ji45) ≤ ((rd_L3 l0_4 x4_3).length : Int)) = true := zT c47
                 clear c47
                 replace H := Option.bind_eq_some_iff.mp H
                 obtain ⟨t1214, A480, H⟩ := H
                 replace H : (if t1214 = true then (spec_DeskOk.l0 kj37 (wrap64 (x4_3 + 1)) a0_0 a0_1 a0_2 a0_3 l0_4 a0_5 l0_6 a0_7 a0_8 a0_9 a0_10) else (some false)) = some r := H
                 have A48 := zA A480
                 clear A480
                 by_cases c49 : t1214 = true
                 ·subst c49
                  have H1 : (spec_DeskOk.l0 kj37 (wrap64 (x4_3 + 1)) a0_0 a0_1 a0_2 a0_3 l0_4 a0_5 l0_6 a0_7 a0_8 a0_9 a0_10) = some r := by rw [if_pos rfl] at H; exact H
                  clear H
                  have H := H1
                  clear H1
                  have H' := zA H
                  clear H
                  have hcz50_0 : wc.cell? ⟨gb1207, 0, none⟩ = some (.int .i64 a0_0) := (zK BK1207.out 0).trans rfl
                  have hcz50_1 : wc.cell? ⟨gb1207, 1, none⟩ = some (.int .i64 a0_1) := (zK BK1207.out 1).trans rfl
                  have hcz50_2 : wc.cell? ⟨gb1207, 2, none⟩ = some (.int .i64 a0_2) := (zK BK1207.out 2).trans rfl
                  have hcz50_3 : wc.cell? ⟨gb1207, 3, none⟩ = some (.int .i64 a0_3) := (zK BK1207.out 3).trans rfl
                  have hcz50_4 : wc.cell? ⟨gb1207, 4, none⟩ = some (.slice A0_4 l0_4.length c0_4) := (zK BK1207.out 4).trans rfl
                  have hcz50_5 : wc.cell? ⟨gb1207, 5, none⟩ = some (.int .i64 a0_5) := (zK BK1207.out 5).trans rfl
                  have hcz50_6 : wc.cell? ⟨gb1207, 6, none⟩ = some (.slice A0_6 l0_6.length c0_6) := (zK BK1207.out 6).trans rfl
                  have hcz50_7 : wc.cell? ⟨gb1207, 7, none⟩ = some (.int .i64 a0_7) := (zK BK1207.out 7).trans rfl
                  have hcz50_8 : wc.cell? ⟨gb1207, 8, none⟩ = some (.bool a0_8) := (zK BK1207.out 8).trans rfl
                  have hcz50_9 : wc.cell? ⟨gb1207, 9, none⟩ = some (.int .i64 a0_9) := (zK BK1207.out 9).trans rfl
                  have hcz50_10 : wc.cell? ⟨gb1207, 10, none⟩ = some (.int .i64 a0_10) := (zK BK1207.out 10).trans rfl
                  have p1212 : 0 ≤ (x4_3 : Int) := zI (by first | (with_reducible assumption) | assumption)
                  have q1212 : x4_3 < (l0_4.length : Int) := zI (by first | (with_reducible assumption) | assumption)
                  obtain ⟨ad1212, A1212_0, c1212_0, e1212, hx1212_0, hl1212_0, hi1212_0⟩ := at_L3 HR0_4.out x4_3 p1212 q1212
                  cases e1212
                  replace hx1212_0 := (HB.out.cell (World.block_lt_of_cell? w _ hx1212_0)).trans hx1212_0
                  have HR1212_0 := zA hi1212_0
                  have HC1212_0 := zA hl1212_0
                  clear hi1212_0 hl1212_0
                  replace p1212 := eq_true p1212
                  replace q1212 := eq_true q1212
                  obtain ⟨i051, hi051, _, hsz51, _⟩ := info_parts info3
                  obtain ⟨A51, hcut51, hA51, hC51⟩ := print_drop_of (P := Try.prog) (Value.int .i64) 0 36 3 .i64 Try.underlying36 hi051 hsz51 A1212_0 c1212_0 (rd_L3 l0_4 x4_3) (ji45) (zI (by first | (with_reducible assumption) | assumption)) (zI (by first | (with_reducible assumption) | assumption)) HC1212_0.out
                  have HR1213 := zA (Kd.C_of_reads (h1 := fun _ => rfl) (hA51 _ (Kd.reads_of_C HR1212_0.out)))
                  have HC1213 := zA hC51
                  clear hA51 hC51 hi051 hsz51
                  go_wp2_with (fail)
                  repeat (go_quiet (first | (go_at_call 77; (try rw [← zR]); (with_reducible refine (spec_l11Zero.calls kj37 _ _ ((rd_L3 l0_4 x4_3).drop ((ji45) : Int).toNat) true _ ?side1 ?side2 A48.out).mono ?_); (case side1 => repeat (first | exact (Kd.C_below HR1213.out HB.out) | (with_reducible refine yH ?_ _) | (with_reducible refine yF ?_ _) | (with_reducible refine yG ?_))); (case side2 => exact HC1213.out); rintro e w' ⟨rfl, ⟨nd, rfl⟩⟩; (try first | exact ⟨rfl, _, World.drewN_drewN _ _ _⟩ | exact ⟨rfl, _, Eq.trans (World.drewN_drewN _ _ _) (congrArg (World.drewN _) (Nat.add_assoc _ _ _))⟩))); try go_wp2_with (fail))
                  go_roundg kj37
                  case measure => have := HJ19.out; have := HJ26.out; have := HK3.out; have := HJ37.out; omega
                  case rel => exact ⟨(wrap64 (x4_3 + 1)), (by first | rfl | (simp; done) | (simp [*]; done)), H', ⟨by have := HJ19.out; have := HJ26.out; have := HK3.out; have := HJ37.out; omega⟩, ⟨by (with_reducible repeat (first | refine zG ?_ _ | refine zH ?_ | refine zD ?_ _)); exact BK1207.out⟩, ⟨by repeat (first | (with_reducible first | exact HB.out | apply zC | apply zB | apply zF | refine zE ?_ GE1207.out) | exact HB.out)⟩⟩
                 ·replace c49 := Bool.eq_false_iff.mpr c49
                  subst c49
                  have H1 : (some false) = some r := by rw [if_neg (show ¬ (false = true) by decide)] at H; exact H
                  clear H
                  have H := H1
                  clear H1
                  obtain rfl := Option.some.inj H
                  have hcz52_0 : wc.cell? ⟨gb1207, 0, none⟩ = some (.int .i64 a0_0) := (zK BK1207.out 0).trans rfl
                  have hcz52_1 : wc.cell? ⟨gb1207, 1, none⟩ = some (.int .i64 a0_1) := (zK BK1207.out 1).trans rfl
                  have hcz52_2 : wc.cell? ⟨gb1207, 2, none⟩ = some (.int .i64 a0_2) := (zK BK1207.out 2).trans rfl
                  have hcz52_3 : wc.cell? ⟨gb1207, 3, none⟩ = some (.int .i64 a0_3) := (zK BK1207.out 3).trans rfl
                  have hcz52_4 : wc.cell? ⟨gb1207, 4, none⟩ = some (.slice A0_4 l0_4.length c0_4) := (zK BK1207.out 4).trans rfl
                  have hcz52_5 : wc.cell? ⟨gb1207, 5, none⟩ = some (.int .i64 a0_5) := (zK BK1207.out 5).trans rfl
                  have hcz52_6 : wc.cell? ⟨gb1207, 6, none⟩ = some (.slice A0_6 l0_6.length c0_6) := (zK BK1207.out 6).trans rfl
                  have hcz52_7 : wc.cell? ⟨gb1207, 7, none⟩ = some (.int .i64 a0_7) := (zK BK1207.out 7).trans rfl
                  have hcz52_8 : wc.cell? ⟨gb1207, 8, none⟩ = some (.bool a0_8) := (zK BK1207.out 8).trans rfl
                  have hcz52_9 : wc.cell? ⟨gb1207, 9, none⟩ = some (.int .i64 a0_9) := (zK BK1207.out 9).trans rfl
                  have hcz52_10 : wc.cell? ⟨gb1207, 10, none⟩ = some (.int .i64 a0_10) := (zK BK1207.out 10).trans rfl
                  have p1212 : 0 ≤ (x4_3 : Int) := zI (by first | (with_reducible assumption) | assumption)
                  have q1212 : x4_3 < (l0_4.length : Int) := zI (by first | (with_reducible assumption) | assumption)
                  obtain ⟨ad1212, A1212_0, c1212_0, e1212, hx1212_0, hl1212_0, hi1212_0⟩ := at_L3 HR0_4.out x4_3 p1212 q1212
                  cases e1212
                  replace hx1212_0 := (HB.out.cell (World.block_lt_of_cell? w _ hx1212_0)).trans hx1212_0
                  have HR1212_0 := zA hi1212_0
                  have HC1212_0 := zA hl1212_0
                  clear hi1212_0 hl1212_0
                  replace p1212 := eq_true p1212
                  replace q1212 := eq_true q1212
                  obtain ⟨i053, hi053, _, hsz53, _⟩ := info_parts info3
                  obtain ⟨A53, hcut53, hA53, hC53⟩ := print_drop_of (P := Try.prog) (Value.int .i64) 0 36 3 .i64 Try.underlying36 hi053 hsz53 A1212_0 c1212_0 (rd_L3 l0_4 x4_3) (ji45) (zI (by first | (with_reducible assumption) | assumption)) (zI (by first | (with_reducible assumption) | assumption)) HC1212_0.out
                  have HR1213 := zA (Kd.C_of_reads (h1 := fun _ => rfl) (hA53 _ (Kd.reads_of_C HR1212_0.out)))
                  have HC1213 := zA hC53
                  clear hA53 hC53 hi053 hsz53
                  go_wp2_with (fail)
                  repeat (go_quiet (first | (go_at_call 77; (try rw [← zR]); (with_reducible refine (spec_l11Zero.calls kj37 _ _ ((rd_L3 l0_4 x4_3).drop ((ji45) : Int).toNat) false _ ?side1 ?side2 A48.out).mono ?_); (case side1 => repeat (first | exact (Kd.C_below HR1213.out HB.out) | (with_reducible refine yH ?_ _) | (with_reducible refine yF ?_ _) | (with_reducible refine yG ?_))); (case side2 => exact HC1213.out); rintro e w' ⟨rfl, ⟨nd, rfl⟩⟩; (try first | exact ⟨rfl, _, World.drewN_drewN _ _ _⟩ | exact ⟨rfl, _, Eq.trans (World.drewN_drewN _ _ _) (congrArg (World.drewN _) (Nat.add_assoc _ _ _))⟩))); try go_wp2_with (fail))
                  go_ret
                  exact ⟨by first | rfl | (simp [errW_none, errW_some] <;> rfl) | (simp only [← hji45]; first | rfl | (simp [errW_none, errW_some] <;> rfl)) | (simp [*, errW_none, errW_some] <;> rfl), by repeat (first | (with_reducible first | exact HB.out | apply zC | apply zB | apply zF | refine zE ?_ GE1207.out) | exact HB.out)⟩
                ·rw [if_neg c47] at H
                 exact absurd H (by simp)
               ·rw [if_neg c46] at H
                exact absurd H (by simp)
              ·rw [if_neg c44] at H
               exact absurd H (by simp)
             ·rw [if_neg c43] at H
              exact absurd H (by simp)
            ·replace c42 := Bool.eq_false_iff.mpr c42
             subst c42
             have H1 : (some true) = some r := by rw [if_neg (show ¬ (false = true) by decide)] at H; exact H
             clear H
             have H := H1
             clear H1
             obtain rfl := Option.some.inj H
             go_wp2
             repeat (go_quiet (fail); try go_wp2)
             go_ret
             exact ⟨by first | rfl | (simp [errW_none, errW_some] <;> rfl) | (simp [*, errW_none, errW_some] <;> rfl), by repeat (first | (with_reducible first | exact HB.out | apply zC | apply zB | apply zF | refine zE ?_ GE1207.out) | exact HB.out)⟩
    ·replace c26 := Bool.eq_false_iff.mpr c26
     subst c26
     have H1 : (if a0_0 = 2 then ((spec_FeedOk.f kj19 l0_6 a0_7 a0_8 a0_9 a0_10).bind fun t1215 => (if t1215 = true then (if a0_5 = 0 then ((spec_l22None.f a0_1 a0_2 a0_3 l0_4).bind fun t1216 => (some t1216)) else (some false)) else (some false))) else (some false)) = some r := by rw [if_neg (show ¬ (false = true) by decide)] at H; exact H
     clear H
     have H := H1
     clear H1
     by_cases c54 : a0_0 = 2
     ·rw [if_pos c54] at H
      have c54b0 : (a0_0 == 2) = true := beq_iff_eq.mpr c54
      have c54b1 : (a0_0 != 2) = false := bne_eq_false_iff_eq.mpr c54
      clear c54
      replace H := Option.bind_eq_some_iff.mp H
      obtain ⟨t1215, A550, H⟩ := H
      replace H : (if t1215 = true then (if a0_5 = 0 then ((spec_l22None.f a0_1 a0_2 a0_3 l0_4).bind fun t1216 => (some t1216)) else (some false)) else (some false)) = some r := H
      have A55 := zA A550
      clear A550
      by_cases c56 : t1215 = true
      ·subst c56
       have H1 : (if a0_5 = 0 then ((spec_l22None.f a0_1 a0_2 a0_3 l0_4).bind fun t1216 => (some t1216)) else (some false)) = some r := by rw [if_pos rfl] at H; exact H
       clear H
       have H := H1
       clear H1
       by_cases c57 : a0_5 = 0
       ·rw [if_pos c57] at H
        have c57b0 : (a0_5 == 0) = true := beq_iff_eq.mpr c57
        have c57b1 : (a0_5 != 0) = false := bne_eq_false_iff_eq.mpr c57
        clear c57
        replace H := Option.bind_eq_some_iff.mp H
        obtain ⟨t1216, A580, H⟩ := H
        replace H : (some t1216) = some r := H
        have A58 := zA A580
        clear A580
        obtain rfl := Option.some.inj H
        have hcz59_0 : wc.cell? ⟨gb1207, 0, none⟩ = some (.int .i64 a0_0) := (zK BK1207.out 0).trans rfl
        have hcz59_1 : wc.cell? ⟨gb1207, 1, none⟩ = some (.int .i64 a0_1) := (zK BK1207.out 1).trans rfl
        have hcz59_2 : wc.cell? ⟨gb1207, 2, none⟩ = some (.int .i64 a0_2) := (zK BK1207.out 2).trans rfl
        have hcz59_3 : wc.cell? ⟨gb1207, 3, none⟩ = some (.int .i64 a0_3) := (zK BK1207.out 3).trans rfl
        have hcz59_4 : wc.cell? ⟨gb1207, 4, none⟩ = some (.slice A0_4 l0_4.length c0_4) := (zK BK1207.out 4).trans rfl
        have hcz59_5 : wc.cell? ⟨gb1207, 5, none⟩ = some (.int .i64 a0_5) := (zK BK1207.out 5).trans rfl
        have hcz59_6 : wc.cell? ⟨gb1207, 6, none⟩ = some (.slice A0_6 l0_6.length c0_6) := (zK BK1207.out 6).trans rfl
        have hcz59_7 : wc.cell? ⟨gb1207, 7, none⟩ = some (.int .i64 a0_7) := (zK BK1207.out 7).trans rfl
        have hcz59_8 : wc.cell? ⟨gb1207, 8, none⟩ = some (.bool a0_8) := (zK BK1207.out 8).trans rfl
        have hcz59_9 : wc.cell? ⟨gb1207, 9, none⟩ = some (.int .i64 a0_9) := (zK BK1207.out 9).trans rfl
        have hcz59_10 : wc.cell? ⟨gb1207, 10, none⟩ = some (.int .i64 a0_10) := (zK BK1207.out 10).trans rfl
        go_wp2_with (first | (go_at_call 94; (with_reducible refine (spec_FeedOk.calls kj19 _ _ l0_6 a0_7 a0_8 a0_9 a0_10 true _ ?side1 ?side2 A55.out).mono ?_); (case side1 => repeat (first | exact (Kd.C_below HR0_6.out HB.out) | (with_reducible refine yH ?_ _) | (with_reducible refine yF ?_ _) | (with_reducible refine yG ?_))); (case side2 => exact HC0_6.out); rintro e w60 ⟨rfl, hb⟩; have n0_ := zA (blk_below (g := gb1207) (o := .cells #[.int .i64 a0_0, .int .i64 a0_1, .int .i64 a0_2, .int .i64 a0_3, .slice A0_4 l0_4.length c0_4, .int .i64 a0_5, .slice A0_6 l0_6.length c0_6, .int .i64 a0_7, .bool a0_8, .int .i64 a0_9, .int .i64 a0_10] 86 (0, 0)) (by (with_reducible repeat (first | refine zG ?_ _ | refine zH ?_ | refine zD ?_ _)); exact BK1207.out) hb); have n1_ := zA (below_step (by repeat (first | (with_reducible first | exact HB.out | apply zC | apply zB | apply zF | refine zE ?_ GE1207.out) | exact HB.out)) hb); clear BK1207; clear HB; have BK1207 := n0_; have HB := n1_; clear n0_ n1_; (try clear hb); (try clear hb2); (try clear hk); (try clear hi); have hcz61_0 : w60.cell? ⟨gb1207, 0, none⟩ = some (.int .i64 a0_0) := (zK BK1207.out 0).trans rfl; have hcz61_1 : w60.cell? ⟨gb1207, 1, none⟩ = some (.int .i64 a0_1) := (zK BK1207.out 1).trans rfl; have hcz61_2 : w60.cell? ⟨gb1207, 2, none⟩ = some (.int .i64 a0_2) := (zK BK1207.out 2).trans rfl; have hcz61_3 : w60.cell? ⟨gb1207, 3, none⟩ = some (.int .i64 a0_3) := (zK BK1207.out 3).trans rfl; have hcz61_4 : w60.cell? ⟨gb1207, 4, none⟩ = some (.slice A0_4 l0_4.length c0_4) := (zK BK1207.out 4).trans rfl; have hcz61_5 : w60.cell? ⟨gb1207, 5, none⟩ = some (.int .i64 a0_5) := (zK BK1207.out 5).trans rfl; have hcz61_6 : w60.cell? ⟨gb1207, 6, none⟩ = some (.slice A0_6 l0_6.length c0_6) := (zK BK1207.out 6).trans rfl; have hcz61_7 : w60.cell? ⟨gb1207, 7, none⟩ = some (.int .i64 a0_7) := (zK BK1207.out 7).trans rfl; have hcz61_8 : w60.cell? ⟨gb1207, 8, none⟩ = some (.bool a0_8) := (zK BK1207.out 8).trans rfl; have hcz61_9 : w60.cell? ⟨gb1207, 9, none⟩ = some (.int .i64 a0_9) := (zK BK1207.out 9).trans rfl; have hcz61_10 : w60.cell? ⟨gb1207, 10, none⟩ = some (.int .i64 a0_10) := (zK BK1207.out 10).trans rfl) | (go_at_call 92; (with_reducible refine (spec_l22None.calls a0_1 a0_2 a0_3 _ _ l0_4 t1216 _ ?side1 ?side2 A58.out).mono ?_); (case side1 => repeat (first | exact (Kd.C_below HR0_4.out HB.out) | (with_reducible refine yH ?_ _) | (with_reducible refine yF ?_ _) | (with_reducible refine yG ?_))); (case side2 => exact HC0_4.out); rintro e w62 ⟨rfl, hb⟩; have n0_ := zA (blk_below (g := gb1207) (o := .cells #[.int .i64 a0_0, .int .i64 a0_1, .int .i64 a0_2, .int .i64 a0_3, .slice A0_4 l0_4.length c0_4, .int .i64 a0_5, .slice A0_6 l0_6.length c0_6, .int .i64 a0_7, .bool a0_8, .int .i64 a0_9, .int .i64 a0_10] 86 (0, 0)) (by (with_reducible repeat (first | refine zG ?_ _ | refine zH ?_ | refine zD ?_ _)); exact BK1207.out) hb); have n1_ := zA (below_step (by repeat (first | (with_reducible first | exact HB.out | apply zC | apply zB | apply zF | refine zE ?_ GE1207.out) | exact HB.out)) hb); clear BK1207; clear HB; have BK1207 := n0_; have HB := n1_; clear n0_ n1_; (try clear hb); (try clear hb2); (try clear hk); (try clear hi)))
        go_ret
        exact ⟨by first | rfl | (simp [errW_none, errW_some] <;> rfl) | (simp [*, errW_none, errW_some] <;> rfl), by repeat (first | (with_reducible first | exact HB.out | apply zC | apply zB | apply zF | refine zE ?_ GE1207.out) | exact HB.out)⟩
       ·rw [if_neg c57] at H
        have c57b0 : (a0_5 == 0) = false := beq_eq_false_iff_ne.mpr c57
        have c57b1 : (a0_5 != 0) = true := bne_iff_ne.mpr c57
        obtain rfl := Option.some.inj H
        have hcz63_0 : wc.cell? ⟨gb1207, 0, none⟩ = some (.int .i64 a0_0) := (zK BK1207.out 0).trans rfl
        have hcz63_1 : wc.cell? ⟨gb1207, 1, none⟩ = some (.int .i64 a0_1) := (zK BK1207.out 1).trans rfl
        have hcz63_2 : wc.cell? ⟨gb1207, 2, none⟩ = some (.int .i64 a0_2) := (zK BK1207.out 2).trans rfl
        have hcz63_3 : wc.cell? ⟨gb1207, 3, none⟩ = some (.int .i64 a0_3) := (zK BK1207.out 3).trans rfl
        have hcz63_4 : wc.cell? ⟨gb1207, 4, none⟩ = some (.slice A0_4 l0_4.length c0_4) := (zK BK1207.out 4).trans rfl
        have hcz63_5 : wc.cell? ⟨gb1207, 5, none⟩ = some (.int .i64 a0_5) := (zK BK1207.out 5).trans rfl
        have hcz63_6 : wc.cell? ⟨gb1207, 6, none⟩ = some (.slice A0_6 l0_6.length c0_6) := (zK BK1207.out 6).trans rfl
        have hcz63_7 : wc.cell? ⟨gb1207, 7, none⟩ = some (.int .i64 a0_7) := (zK BK1207.out 7).trans rfl
        have hcz63_8 : wc.cell? ⟨gb1207, 8, none⟩ = some (.bool a0_8) := (zK BK1207.out 8).trans rfl
        have hcz63_9 : wc.cell? ⟨gb1207, 9, none⟩ = some (.int .i64 a0_9) := (zK BK1207.out 9).trans rfl
        have hcz63_10 : wc.cell? ⟨gb1207, 10, none⟩ = some (.int .i64 a0_10) := (zK BK1207.out 10).trans rfl
        go_wp2_with (first | (go_at_call 94; (with_reducible refine (spec_FeedOk.calls kj19 _ _ l0_6 a0_7 a0_8 a0_9 a0_10 true _ ?side1 ?side2 A55.out).mono ?_); (case side1 => repeat (first | exact (Kd.C_below HR0_6.out HB.out) | (with_reducible refine yH ?_ _) | (with_reducible refine yF ?_ _) | (with_reducible refine yG ?_))); (case side2 => exact HC0_6.out); rintro e w64 ⟨rfl, hb⟩; have n0_ := zA (blk_below (g := gb1207) (o := .cells #[.int .i64 a0_0, .int .i64 a0_1, .int .i64 a0_2, .int .i64 a0_3, .slice A0_4 l0_4.length c0_4, .int .i64 a0_5, .slice A0_6 l0_6.length c0_6, .int .i64 a0_7, .bool a0_8, .int .i64 a0_9, .int .i64 a0_10] 86 (0, 0)) (by (with_reducible repeat (first | refine zG ?_ _ | refine zH ?_ | refine zD ?_ _)); exact BK1207.out) hb); have n1_ := zA (below_step (by repeat (first | (with_reducible first | exact HB.out | apply zC | apply zB | apply zF | refine zE ?_ GE1207.out) | exact HB.out)) hb); clear BK1207; clear HB; have BK1207 := n0_; have HB := n1_; clear n0_ n1_; (try clear hb); (try clear hb2); (try clear hk); (try clear hi); have hcz65_0 : w64.cell? ⟨gb1207, 0, none⟩ = some (.int .i64 a0_0) := (zK BK1207.out 0).trans rfl; have hcz65_1 : w64.cell? ⟨gb1207, 1, none⟩ = some (.int .i64 a0_1) := (zK BK1207.out 1).trans rfl; have hcz65_2 : w64.cell? ⟨gb1207, 2, none⟩ = some (.int .i64 a0_2) := (zK BK1207.out 2).trans rfl; have hcz65_3 : w64.cell? ⟨gb1207, 3, none⟩ = some (.int .i64 a0_3) := (zK BK1207.out 3).trans rfl; have hcz65_4 : w64.cell? ⟨gb1207, 4, none⟩ = some (.slice A0_4 l0_4.length c0_4) := (zK BK1207.out 4).trans rfl; have hcz65_5 : w64.cell? ⟨gb1207, 5, none⟩ = some (.int .i64 a0_5) := (zK BK1207.out 5).trans rfl; have hcz65_6 : w64.cell? ⟨gb1207, 6, none⟩ = some (.slice A0_6 l0_6.length c0_6) := (zK BK1207.out 6).trans rfl; have hcz65_7 : w64.cell? ⟨gb1207, 7, none⟩ = some (.int .i64 a0_7) := (zK BK1207.out 7).trans rfl; have hcz65_8 : w64.cell? ⟨gb1207, 8, none⟩ = some (.bool a0_8) := (zK BK1207.out 8).trans rfl; have hcz65_9 : w64.cell? ⟨gb1207, 9, none⟩ = some (.int .i64 a0_9) := (zK BK1207.out 9).trans rfl; have hcz65_10 : w64.cell? ⟨gb1207, 10, none⟩ = some (.int .i64 a0_10) := (zK BK1207.out 10).trans rfl))
        go_ret
        exact ⟨by first | rfl | (simp [errW_none, errW_some] <;> rfl) | (simp [*, errW_none, errW_some] <;> rfl), by repeat (first | (with_reducible first | exact HB.out | apply zC | apply zB | apply zF | refine zE ?_ GE1207.out) | exact HB.out)⟩
      ·replace c56 := Bool.eq_false_iff.mpr c56
       subst c56
       have H1 : (some false) = some r := by rw [if_neg (show ¬ (false = true) by decide)] at H; exact H
       clear H
       have H := H1
       clear H1
       obtain rfl := Option.some.inj H
       have hcz66_0 : wc.cell? ⟨gb1207, 0, none⟩ = some (.int .i64 a0_0) := (zK BK1207.out 0).trans rfl
       have hcz66_1 : wc.cell? ⟨gb1207, 1, none⟩ = some (.int .i64 a0_1) := (zK BK1207.out 1).trans rfl
       have hcz66_2 : wc.cell? ⟨gb1207, 2, none⟩ = some (.int .i64 a0_2) := (zK BK1207.out 2).trans rfl
       have hcz66_3 : wc.cell? ⟨gb1207, 3, none⟩ = some (.int .i64 a0_3) := (zK BK1207.out 3).trans rfl
       have hcz66_4 : wc.cell? ⟨gb1207, 4, none⟩ = some (.slice A0_4 l0_4.length c0_4) := (zK BK1207.out 4).trans rfl
       have hcz66_5 : wc.cell? ⟨gb1207, 5, none⟩ = some (.int .i64 a0_5) := (zK BK1207.out 5).trans rfl
       have hcz66_6 : wc.cell? ⟨gb1207, 6, none⟩ = some (.slice A0_6 l0_6.length c0_6) := (zK BK1207.out 6).trans rfl
       have hcz66_7 : wc.cell? ⟨gb1207, 7, none⟩ = some (.int .i64 a0_7) := (zK BK1207.out 7).trans rfl
       have hcz66_8 : wc.cell? ⟨gb1207, 8, none⟩ = some (.bool a0_8) := (zK BK1207.out 8).trans rfl
       have hcz66_9 : wc.cell? ⟨gb1207, 9, none⟩ = some (.int .i64 a0_9) := (zK BK1207.out 9).trans rfl
       have hcz66_10 : wc.cell? ⟨gb1207, 10, none⟩ = some (.int .i64 a0_10) := (zK BK1207.out 10).trans rfl
       go_wp2_with (first | (go_at_call 94; (with_reducible refine (spec_FeedOk.calls kj19 _ _ l0_6 a0_7 a0_8 a0_9 a0_10 false _ ?side1 ?side2 A55.out).mono ?_); (case side1 => repeat (first | exact (Kd.C_below HR0_6.out HB.out) | (with_reducible refine yH ?_ _) | (with_reducible refine yF ?_ _) | (with_reducible refine yG ?_))); (case side2 => exact HC0_6.out); rintro e w67 ⟨rfl, hb⟩; have n0_ := zA (blk_below (g := gb1207) (o := .cells #[.int .i64 a0_0, .int .i64 a0_1, .int .i64 a0_2, .int .i64 a0_3, .slice A0_4 l0_4.length c0_4, .int .i64 a0_5, .slice A0_6 l0_6.length c0_6, .int .i64 a0_7, .bool a0_8, .int .i64 a0_9, .int .i64 a0_10] 86 (0, 0)) (by (with_reducible repeat (first | refine zG ?_ _ | refine zH ?_ | refine zD ?_ _)); exact BK1207.out) hb); have n1_ := zA (below_step (by repeat (first | (with_reducible first | exact HB.out | apply zC | apply zB | apply zF | refine zE ?_ GE1207.out) | exact HB.out)) hb); clear BK1207; clear HB; have BK1207 := n0_; have HB := n1_; clear n0_ n1_; (try clear hb); (try clear hb2); (try clear hk); (try clear hi)))
       go_ret
       exact ⟨by first | rfl | (simp [errW_none, errW_some] <;> rfl) | (simp [*, errW_none, errW_some] <;> rfl), by repeat (first | (with_reducible first | exact HB.out | apply zC | apply zB | apply zF | refine zE ?_ GE1207.out) | exact HB.out)⟩
     ·rw [if_neg c54] at H
      have c54b0 : (a0_0 == 2) = false := beq_eq_false_iff_ne.mpr c54
      have c54b1 : (a0_0 != 2) = true := bne_iff_ne.mpr c54
      obtain rfl := Option.some.inj H
      go_wp2
      repeat (go_quiet (fail); try go_wp2)
      go_ret
      exact ⟨by first | rfl | (simp [errW_none, errW_some] <;> rfl) | (simp [*, errW_none, errW_some] <;> rfl), by repeat (first | (with_reducible first | exact HB.out | apply zC | apply zB | apply zF | refine zE ?_ GE1207.out) | exact HB.out)⟩
theorem spec_l22None.val (p w h : Int) (pl : List (List Int)) : spec_l22None.f p w h pl = some (noPic p w h pl) := by
 unfold spec_l22None.f noPic
 by_cases h1 : p = 0
 ·by_cases h2 : w = 0
  ·by_cases h3 : h = 0
   ·rw [if_pos h1, if_pos h2, if_pos h3, zT h1, zT h2, zT h3, Bool.true_and, Bool.true_and, Bool.true_and]
    congr 1
    rw [Bool.eq_iff_iff, beq_iff_eq, decide_eq_true_eq]; omega
   ·rw [if_pos h1, if_pos h2, if_neg h3, decide_eq_false h3, Bool.false_and, Bool.and_false, Bool.and_false]
  ·rw [if_pos h1, if_neg h2, decide_eq_false h2, Bool.false_and, Bool.and_false]
 ·rw [if_neg h1, decide_eq_false h1, Bool.false_and]
theorem spec_l22Same.none_ev (l : List Int) (n : Int) (o : Bool) (fc fa : Int) : Ev (fun k => spec_l22Same.f k l n o fc fa [] 0 false 0 0) (noFeed l n o fc fa) := by
 unfold spec_l22Same.f noFeed
 by_cases h2 : n = 0
 ·refine Ev.ip h2 ?_
  rw [zT h2, Bool.true_and]
  cases o with
  | true => exact Ev.ng (by simp) (Ev.eq (Ev.now _) (by simp))
  | false =>
   refine Ev.ip rfl ?_
   by_cases h3 : (fc == 0 && (fa == 0)) = true
   ·refine Ev.ip h3 ?_
    have e : (decide (fc = 0) && decide (fa = 0)) = true := h3
    rw [e]; simp only [Bool.not_false, Bool.and_true, Bool.true_and]
    refine Ev.bind (Ev.eq (r' := decide (l.length = 0)) ?_ rfl) (Ev.now _)
    unfold spec_l19Bytes.f
    by_cases hl : l.length = 0
    ·refine Ev.ip (by simp only [List.length_nil]; omega) (Ev.step (fun _ => by rw [spec_l19Bytes.l0]) (Ev.ng (by omega) (Ev.eq (Ev.now _) ?_)))
     rw [zT hl]
    ·refine Ev.ng (by simp only [List.length_nil]; omega) (Ev.eq (Ev.now _) ?_)
     rw [decide_eq_false hl]
   ·refine Ev.ng h3 (Ev.eq (Ev.now _) ?_)
    have e : (decide (fc = 0) && decide (fa = 0)) = false := Bool.eq_false_iff.2 h3
    rw [e, Bool.and_false, Bool.and_false]
 ·refine Ev.ng h2 (Ev.eq (Ev.now _) ?_)
  rw [decide_eq_false h2, Bool.false_and, Bool.and_false]
theorem spec_DeskOk.l0_ev (st p w h : Int) (pl : List (List Int)) (row : Int) (l : List Int) (n : Int) (o : Bool) (fc fa : Int) (hw : 0 ≤ row * w) (hq : row * w ≤ 16384) (hn : pl.length ≤ 4) (hx : ∀ x ∈ pl, row * w ≤ (x.length : Int) ∧ x.length ≤ 16384) :
  ∀ d i : Nat, i + d = pl.length → Ev (fun k => spec_DeskOk.l0 k (i : Int) st p w h pl row l n o fc fa) (decide (st ≠ 1) || emptyFrom (row * w) (pl.drop i)) := by
 intro d
 induction d with
 | zero =>
  intro i hi
  refine Ev.step (fun _ => by rw [spec_DeskOk.l0]) (Ev.ng (by omega) (Ev.step (fun _ => by rw [spec_DeskOk.j3]) (Ev.ng (by simp) (Ev.eq (Ev.now _) ?_))))
  rw [show i = pl.length by omega, List.drop_length, show emptyFrom (row * w) [] = true from rfl, Bool.or_true]
 | succ d ih =>
  intro i hi
  have hlt : i < pl.length := by omega
  refine Ev.step (fun _ => by rw [spec_DeskOk.l0]) (Ev.ip (by omega) (Ev.step (fun _ => by rw [spec_DeskOk.j3]) ?_))
  by_cases h1 : st = 1
  ·obtain ⟨x1, x2⟩ := hx pl[i] (List.getElem_mem hlt)
   refine Ev.ip (by rw [h1]; rfl) (Ev.ip (by omega) (Ev.ip (by omega) ?_))
   rw [rdL_nat pl i hlt, wrap_in (row * w) (by omega) (by omega), List.drop_eq_getElem_cons hlt]
   refine Ev.ip hw (Ev.ip x1 (Ev.bind (spec_l11Zero.ev _ (by rw [zR]; omega)) ?_))
   rw [decide_eq_false (show ¬ st ≠ 1 from fun e => e h1), Bool.false_or]
   by_cases ha : allW 0 0 (pl[i].drop (row * w).toNat) = true
   ·refine Ev.ip ha ?_
    rw [wrap_succ i (by omega)]
    refine Ev.eq (ih (i + 1) (by omega)) ?_
    rw [decide_eq_false (show ¬ st ≠ 1 from fun e => e h1), Bool.false_or, emptyFrom, emptyFrom, List.all_cons, ha, Bool.true_and]
   ·refine Ev.ng ha (Ev.eq (Ev.now _) ?_)
    rw [emptyFrom, List.all_cons, Bool.eq_false_iff.2 ha, Bool.false_and]
  ·refine Ev.ng (by rw [beq_iff_eq]; exact h1) (Ev.eq (Ev.now _) ?_)
   rw [zT h1, Bool.true_or]
theorem spec_DeskOk.j0_ev (nf : Bool) (st p w h : Int) (pl : List (List Int)) (row : Int) (l : List Int) (n : Int) (o : Bool) (fc fa : Int) :
  Ev (fun k => spec_DeskOk.j0 k nf st true st p w h pl row l n o fc fa) (picOkM p w h pl && ((decide (0 ≤ row) && decide (row ≤ h)) && (nf && (decide (st ≠ 1) || emptyFrom (row * w) pl)))) := by
 refine Ev.step (fun _ => by rw [spec_DeskOk.j0]) (Ev.ip rfl ?_)
 have bad : Ev (fun k => spec_DeskOk.j1 k true st p w h pl row l n o fc fa) false := Ev.step (fun _ => by rw [spec_DeskOk.j1]) (Ev.ip rfl (Ev.now _))
 cases nf with
 | false => exact Ev.ng (by simp) (Ev.eq bad (by simp))
 | true =>
  refine Ev.ip rfl (Ev.bind (spec_PictureOk.ev p w h pl) ?_)
  rw [Bool.true_and]
  by_cases h1 : picOkM p w h pl = true
  ·refine Ev.ip h1 (Ev.bind (Ev.c (spec_l01Between.val _ _ _)) ?_)
   rw [h1, Bool.true_and]
   obtain ⟨q, q1, q2, q3⟩ := picOk_of h1
   refine Ev.step (fun _ => by rw [spec_DeskOk.j1]) ?_
   by_cases h2 : (decide (0 ≤ row) && decide (row ≤ h)) = true
   ·rw [h2, Bool.true_and]
    simp only [Bool.and_eq_true, decide_eq_true_eq] at h2
    have hr := row_in q h2.1 h2.2
    have ha := q.a2
    exact Ev.ng (by simp) (spec_DeskOk.l0_ev st p w h pl row l n o fc fa hr.1 (by omega) q2 (fun x hx => by have := q3 x hx; omega) pl.length 0 (Nat.zero_add _))
   ·rw [Bool.eq_false_iff.2 h2]
    exact Ev.ip rfl (Ev.now _)
  ·rw [Bool.eq_false_iff.2 h1, Bool.false_and]
   exact Ev.ng Bool.false_ne_true bad
theorem spec_DeskOk.ev (st p w h : Int) (pl : List (List Int)) (row : Int) (l : List Int) (n : Int) (o : Bool) (fc fa : Int) (hB : isB l = true) :
  Ev (fun k => spec_DeskOk.f k st p w h pl row l n o fc fa) (deskM st p w h pl row l n o fc fa) := by
 unfold spec_DeskOk.f deskM
 refine Ev.bind (spec_l22Same.none_ev l n o fc fa) ?_
 by_cases h0 : st = 0
 ·rw [if_pos h0]
  refine Ev.ip h0 ?_
  by_cases h1 : noFeed l n o fc fa = true
  ·refine Ev.ip h1 ?_
   rw [h1, Bool.and_true]
   by_cases h2 : row = 0
   ·refine Ev.ip h2 (Ev.bind (Ev.c (spec_l22None.val _ _ _ _)) (Ev.eq (Ev.now _) ?_))
    rw [zT h2, Bool.and_true]
   ·refine Ev.ng h2 (Ev.eq (Ev.now _) ?_)
    rw [decide_eq_false h2, Bool.and_false]
  ·refine Ev.ng h1 (Ev.eq (Ev.now _) ?_)
   rw [Bool.eq_false_iff.2 h1, Bool.and_false, Bool.and_false]
 ·rw [if_neg h0]
  refine Ev.ng h0 ?_
  by_cases h1 : st = 1
  ·refine Ev.ip h1 ?_
   rw [if_neg (show st ≠ 2 by omega), if_pos h1, show (st == 1) = true from beq_iff_eq.2 h1]
   refine Ev.eq (spec_DeskOk.j0_ev _ st p w h pl row l n o fc fa) ?_
   rw [decide_eq_false (show ¬ st ≠ 1 from fun e => e h1), Bool.false_or]
  ·refine Ev.ng h1 ?_
   rw [if_neg h1]
   by_cases h3 : st = 3
   ·rw [if_neg (show st ≠ 2 by omega), if_pos h3, show (st == 3) = true from beq_iff_eq.2 h3]
    refine Ev.eq (spec_DeskOk.j0_ev _ st p w h pl row l n o fc fa) ?_
    rw [zT h1, Bool.true_or, Bool.and_true]
   ·rw [if_neg h3, show (st == 3) = false from beq_eq_false_iff_ne.2 h3]
    refine Ev.step (fun _ => by rw [spec_DeskOk.j0]) (Ev.ng Bool.false_ne_true ?_)
    by_cases h2 : st = 2
    ·rw [if_pos h2]
     refine Ev.ip h2 (Ev.bind (spec_FeedOk.ev l n o fc fa hB) ?_)
     by_cases h4 : feedOkM l n o fc fa = true
     ·refine Ev.ip h4 ?_
      rw [h4, Bool.and_true]
      by_cases h5 : row = 0
      ·refine Ev.ip h5 (Ev.bind (Ev.c (spec_l22None.val _ _ _ _)) (Ev.eq (Ev.now _) ?_))
       rw [zT h5, Bool.and_true]
      ·refine Ev.ng h5 (Ev.eq (Ev.now _) ?_)
       rw [decide_eq_false h5, Bool.and_false]
     ·refine Ev.ng h4 (Ev.eq (Ev.now _) ?_)
      rw [Bool.eq_false_iff.2 h4, Bool.and_false, Bool.and_false]
    ·rw [if_neg h2]
     exact Ev.ng h2 (Ev.now _)
end Go.Proofs.Ytilimpjcdeeaiaa.G


namespace Go.Proofs.Ytilimpjcdeeaiaa.G
open Go.RowKit Go.Proofs.YtilimpjcdeeaiaaW.PrintWords Go.Proofs.YtilimpjcdeeaiaaW.PrintLast Go.Proofs.YtilimpjcdeeaiaaW.PrintMore
attribute [local go_sem] max2_int min2_int max_two min_two max_three min_three max_four min_four   -- for this text's walks alone
def laws_toPicture.f (a0_0 : Int) (a0_1 : Int) (a0_2 : Int) (l0_3 : List (List Int)) : Option (Int × Int × Int × (List (List Int))) := (laws_toIntSS.f l0_3).bind fun t1220 => (some (a0_0, a0_1, a0_2, t1220))
set_option maxHeartbeats 8000000 in
set_option maxRecDepth 100000 in
theorem laws_toPicture.calls (a0_0 : Int) (a0_1 : Int) (a0_2 : Int) (A0_3 : Option Addr) (c0_3 : Nat) (l0_3 : List (List Int)) (r1 : Int) (r2 : Int) (r3 : Int) (r4 : List (List Int)) (w : World) (hr0_3 : Kd.C (Kd.slice 3 (Kd.int .i64)) w A0_3 l0_3.length l0_3) (hc0_3 : l0_3.length ≤ c0_3) (h : laws_toPicture.f a0_0 a0_1 a0_2 l0_3 = some (r1, r2, r3, r4)) :
  Calls Try.prog 95 #[.agg #[.int .i64 a0_0, .int .i64 a0_1, .int .i64 a0_2, .slice A0_3 l0_3.length c0_3]] w fun e w' => ∃ v3_ : Value, e = .returned (.agg #[.int .i64 r1, .int .i64 r2, .int .i64 r3, v3_]) ∧ Kd.S (Kd.slice 3 (Kd.int .i64)) 36 w' w.heap.size (fun _ => True) v3_ r4 ∧ Below w.heap.size w w' := by
 have hu72 := Try.underlying72
 have hu81 := Try.underlying81
 have HR0_3 := zA hr0_3
 have HC0_3 := zA hc0_3
 clear hr0_3 hc0_3
 have HB := zA (Below.refl w.heap.size w)
 have H : ((laws_toIntSS.f l0_3).bind fun t1220 => (some (a0_0, a0_1, a0_2, t1220))) = some (r1, r2, r3, r4) := h
 clear h
 replace H := Option.bind_eq_some_iff.mp H
 obtain ⟨t1220, A20, H⟩ := H
 replace H : (some (a0_0, a0_1, a0_2, t1220)) = some (r1, r2, r3, r4) := H
 have A2 := zA A20
 clear A20
 simp only [Option.some.injEq, Prod.mk.injEq] at H
 obtain ⟨rfl, rfl, rfl, rfl⟩ := H
 go_enter Try.func95, Try.ntmps95
 go_wp2_with (first | ((with_reducible refine gate_dst (N := 1) rfl ?_); refine box_event ?hg (N := 1) ?hd (cs := #[.int .i64 a0_0, .int .i64 a0_1, .int .i64 a0_2, .slice A0_3 l0_3.length c0_3]) (t := 72) ?hr ?_; (case hd => rfl); (case hg => rfl); (case hr => first | (go_simp; done) | (go_simp; rfl)); intro gb1217 hg w3 hbox hb; have n0_ := zA (below_step (by repeat (first | (with_reducible first | exact HB.out | apply zC | apply zB | apply zF) | exact HB.out)) hb); have n1_ := zA (hbox); have n2_ := zA ((by rw [hg]; exact (zL (by repeat (first | (with_reducible first | exact HB.out | apply zC | apply zB | apply zF) | exact HB.out))) : w.heap.size ≤ gb1217)); have n3_ := zA ((by rw [hg]; exact (zL (by repeat (first | (with_reducible first | exact HB.out | apply zC | apply zB | apply zF) | exact HB.out))) : w.heap.size ≤ gb1217)); clear HB; have HB := n0_; have BK1217 := n1_; have GW1217 := n2_; have GE1217 := n3_; clear n0_ n1_ n2_ n3_; clear hb hbox hg) | ((with_reducible refine gate_dst (N := 2) rfl ?_); refine box_event ?hg (N := 2) ?hd (cs := #[.int .i64 0, .int .i64 0, .int .i64 0, .slice none 0 0]) (t := 81) ?hr ?_; (case hd => rfl); (case hg => rfl); (case hr => first | (go_simp; done) | (go_simp; rfl)); intro gb1218 hg w4 hbox hb; have n0_ := zA (blk_below (g := gb1217) (o := .cells #[.int .i64 a0_0, .int .i64 a0_1, .int .i64 a0_2, .slice A0_3 l0_3.length c0_3] 72 (0, 0)) (by (with_reducible repeat (first | refine zG ?_ _ | refine zH ?_ | refine zD ?_ _)); exact BK1217.out) hb); have n1_ := zA (below_step (by repeat (first | (with_reducible first | exact HB.out | apply zC | apply zB | apply zF | refine zE ?_ GE1217.out) | exact HB.out)) hb); have n2_ := zA (hbox); have n3_ := zA ((by rw [hg]; exact (zL (by repeat (first | (with_reducible first | exact HB.out | apply zC | apply zB | apply zF | refine zE ?_ GE1217.out) | exact HB.out))) : w.heap.size ≤ gb1218)); have n4_ := zA ((by rw [hg]; exact (zL (by repeat (first | (with_reducible first | exact HB.out | apply zC | apply zB | apply zF | refine zE ?_ GE1217.out) | exact HB.out))) : w.heap.size ≤ gb1218)); have n5_ := zA ((by rw [hg]; exact Nat.ne_of_lt (blk_lt (g := gb1217) (o := .cells #[.int .i64 a0_0, .int .i64 a0_1, .int .i64 a0_2, .slice A0_3 l0_3.length c0_3] 72 (0, 0)) (by (with_reducible repeat (first | refine zG ?_ _ | refine zH ?_ | refine zD ?_ _)); exact BK1217.out)) : gb1217 ≠ gb1218)); have n6_ := zA ((by rw [hg]; exact Nat.ne_of_gt (blk_lt (g := gb1217) (o := .cells #[.int .i64 a0_0, .int .i64 a0_1, .int .i64 a0_2, .slice A0_3 l0_3.length c0_3] 72 (0, 0)) (by (with_reducible repeat (first | refine zG ?_ _ | refine zH ?_ | refine zD ?_ _)); exact BK1217.out)) : gb1218 ≠ gb1217)); clear BK1217; clear HB; have BK1217 := n0_; have HB := n1_; have BK1218 := n2_; have GW1218 := n3_; have GE1218 := n4_; have NB1217_1218 := n5_; have NB1218_1217 := n6_; clear n0_ n1_ n2_ n3_ n4_ n5_ n6_; clear hb hbox hg) | ((with_reducible refine gate_dst (N := 3) rfl ?_); refine box_event ?hg (N := 3) ?hd (cs := #[.int .i64 0, .int .i64 0, .int .i64 0, .slice none 0 0]) (t := 81) ?hr ?_; (case hd => rfl); (case hg => rfl); (case hr => first | (go_simp; done) | (go_simp; rfl)); intro gb1219 hg w5 hbox hb; have n0_ := zA (blk_below (g := gb1217) (o := .cells #[.int .i64 a0_0, .int .i64 a0_1, .int .i64 a0_2, .slice A0_3 l0_3.length c0_3] 72 (0, 0)) (by (with_reducible repeat (first | refine zG ?_ _ | refine zH ?_ | refine zD ?_ _)); exact BK1217.out) hb); have n1_ := zA (blk_below (g := gb1218) (o := .cells #[.int .i64 0, .int .i64 0, .int .i64 0, .slice none 0 0] 81 (0, 0)) (by (with_reducible repeat (first | refine zG ?_ _ | refine zH ?_ | refine zD ?_ _)); exact BK1218.out) hb); have n2_ := zA (below_step (by repeat (first | (with_reducible first | exact HB.out | apply zC | apply zB | apply zF | refine zE ?_ GE1217.out | refine zE ?_ GE1218.out) | exact HB.out)) hb); have n3_ := zA (hbox); have n4_ := zA ((by rw [hg]; exact (zL (by repeat (first | (with_reducible first | exact HB.out | apply zC | apply zB | apply zF | refine zE ?_ GE1217.out | refine zE ?_ GE1218.out) | exact HB.out))) : w.heap.size ≤ gb1219)); have n5_ := zA ((by rw [hg]; exact (zL (by repeat (first | (with_reducible first | exact HB.out | apply zC | apply zB | apply zF | refine zE ?_ GE1217.out | refine zE ?_ GE1218.out) | exact HB.out))) : w.heap.size ≤ gb1219)); have n6_ := zA ((by rw [hg]; exact Nat.ne_of_lt (blk_lt (g := gb1217) (o := .cells #[.int .i64 a0_0, .int .i64 a0_1, .int .i64 a0_2, .slice A0_3 l0_3.length c0_3] 72 (0, 0)) (by (with_reducible repeat (first | refine zG ?_ _ | refine zH ?_ | refine zD ?_ _)); exact BK1217.out)) : gb1217 ≠ gb1219)); have n7_ := zA ((by rw [hg]; exact Nat.ne_of_gt (blk_lt (g := gb1217) (o := .cells #[.int .i64 a0_0, .int .i64 a0_1, .int .i64 a0_2, .slice A0_3 l0_3.length c0_3] 72 (0, 0)) (by (with_reducible repeat (first | refine zG ?_ _ | refine zH ?_ | refine zD ?_ _)); exact BK1217.out)) : gb1219 ≠ gb1217)); have n8_ := zA ((by rw [hg]; exact Nat.ne_of_lt (blk_lt (g := gb1218) (o := .cells #[.int .i64 0, .int .i64 0, .int .i64 0, .slice none 0 0] 81 (0, 0)) (by (with_reducible repeat (first | refine zG ?_ _ | refine zH ?_ | refine zD ?_ _)); exact BK1218.out)) : gb1218 ≠ gb1219)); have n9_ := zA ((by rw [hg]; exact Nat.ne_of_gt (blk_lt (g := gb1218) (o := .cells #[.int .i64 0, .int .i64 0, .int .i64 0, .slice none 0 0] 81 (0, 0)) (by (with_reducible repeat (first | refine zG ?_ _ | refine zH ?_ | refine zD ?_ _)); exact BK1218.out)) : gb1219 ≠ gb1218)); clear BK1217; clear BK1218; clear HB; have BK1217 := n0_; have BK1218 := n1_; have HB := n2_; have BK1219 := n3_; have GW1219 := n4_; have GE1219 := n5_; have NB1217_1219 := n6_; have NB1219_1217 := n7_; have NB1218_1219 := n8_; have NB1219_1218 := n9_; clear n0_ n1_ n2_ n3_ n4_ n5_ n6_ n7_ n8_ n9_; clear hb hbox hg; have hnb6 := NB1217_1218.out; have hnc6 := NB1218_1217.out; have hnb7 := NB1217_1219.out; have hnc7 := NB1219_1217.out; have hcz8_0 : w5.cell? ⟨gb1217, 0, none⟩ = some (.int .i64 a0_0) := (zK BK1217.out 0).trans rfl; have hcz8_1 : w5.cell? ⟨gb1217, 1, none⟩ = some (.int .i64 a0_1) := (zK BK1217.out 1).trans rfl; have hcz8_2 : w5.cell? ⟨gb1217, 2, none⟩ = some (.int .i64 a0_2) := (zK BK1217.out 2).trans rfl; have hcz8_3 : w5.cell? ⟨gb1217, 3, none⟩ = some (.slice A0_3 l0_3.length c0_3) := (zK BK1217.out 3).trans rfl; have hfz8_0 := zJ BK1217.out 0; have hfz8_1 := zJ BK1217.out 1; have hfz8_2 := zJ BK1217.out 2; have hfz8_3 := zJ BK1217.out 3; have hnb9 := NB1219_1218.out; have hnc9 := NB1218_1219.out; have hcz10_0 : w5.cell? ⟨gb1219, 0, none⟩ = some (.int .i64 0) := (zK BK1219.out 0).trans rfl; have hcz10_1 : w5.cell? ⟨gb1219, 1, none⟩ = some (.int .i64 0) := (zK BK1219.out 1).trans rfl; have hcz10_2 : w5.cell? ⟨gb1219, 2, none⟩ = some (.int .i64 0) := (zK BK1219.out 2).trans rfl; have hcz10_3 : w5.cell? ⟨gb1219, 3, none⟩ = some (.slice none 0 0) := (zK BK1219.out 3).trans rfl; have hfz10_0 := zJ BK1219.out 0; have hfz10_1 := zJ BK1219.out 1; have hfz10_2 := zJ BK1219.out 2; have hfz10_3 := zJ BK1219.out 3) | ((with_reducible refine gate_callee (f := 127) rfl ?_); refine goesL_ (some 15) rfl rfl Try.func127 (by kernel_rfl) rfl #[.slice A0_3 l0_3.length c0_3] rfl (by (try simp only [zU, zV, zW]); first | done | rfl | (simp only [zR, zQ]; rfl)) ?_; (with_reducible refine (laws_toIntSS.calls _ _ l0_3 t1220 _ ?side1 ?side2 A2.out).mono ?_); (case side1 => exact Kd.C_below HR0_3.out (by repeat (first | (with_reducible first | exact HB.out | apply zC | apply zB | apply zF | refine zE ?_ GE1217.out | refine zE ?_ GE1218.out | refine zE ?_ GE1219.out) | exact HB.out))); (case side2 => exact HC0_3.out); rintro e w11 ⟨v1221, rfl, ho0, hb⟩; refine ⟨_, rfl, ?_⟩; have n0_ := zA (Kd.S_lower ho0 (zL (by repeat (first | (with_reducible first | exact HB.out | apply zC | apply zB | apply zF | refine zE ?_ GE1217.out | refine zE ?_ GE1218.out | refine zE ?_ GE1219.out) | exact HB.out)))); have n1_ := zA (blk_below (g := gb1217) (o := .cells #[.int .i64 a0_0, .int .i64 a0_1, .int .i64 a0_2, .slice A0_3 l0_3.length c0_3] 72 (0, 0)) (by (with_reducible repeat (first | refine zG ?_ _ | refine zH ?_ | refine zD ?_ _)); refine blk_far ?_ NB1217_1219.out _; (with_reducible repeat (first | refine zG ?_ _ | refine zH ?_ | refine zD ?_ _)); refine blk_far ?_ NB1217_1219.out _; (with_reducible repeat (first | refine zG ?_ _ | refine zH ?_ | refine zD ?_ _)); refine blk_far ?_ NB1217_1219.out _; (with_reducible repeat (first | refine zG ?_ _ | refine zH ?_ | refine zD ?_ _)); exact BK1217.out) hb); have n2_ := zA (blk_below (g := gb1218) (o := .cells #[.int .i64 0, .int .i64 0, .int .i64 0, .slice none 0 0] 81 (0, 0)) (by (with_reducible repeat (first | refine zG ?_ _ | refine zH ?_ | refine zD ?_ _)); refine blk_far ?_ NB1218_1219.out _; (with_reducible repeat (first | refine zG ?_ _ | refine zH ?_ | refine zD ?_ _)); refine blk_far ?_ NB1218_1219.out _; (with_reducible repeat (first | refine zG ?_ _ | refine zH ?_ | refine zD ?_ _)); refine blk_far ?_ NB1218_1219.out _; (with_reducible repeat (first | refine zG ?_ _ | refine zH ?_ | refine zD ?_ _)); exact BK1218.out) hb); have n3_ := zA (blk_below (g := gb1219) (o := .cells #[.int .i64 a0_0, .int .i64 a0_1, .int .i64 a0_2, .slice none 0 0] 81 (0, 0)) (by (with_reducible repeat (first | refine zG ?_ _ | refine zH ?_ | refine zD ?_ _)); refine blk_put (cs := #[.int .i64 a0_0, .int .i64 a0_1, .int .i64 0, .slice none 0 0]) ?_ 2 _ rfl; (with_reducible repeat (first | refine zG ?_ _ | refine zH ?_ | refine zD ?_ _)); refine blk_put (cs := #[.int .i64 a0_0, .int .i64 0, .int .i64 0, .slice none 0 0]) ?_ 1 _ rfl; (with_reducible repeat (first | refine zG ?_ _ | refine zH ?_ | refine zD ?_ _)); refine blk_put (cs := #[.int .i64 0, .int .i64 0, .int .i64 0, .slice none 0 0]) ?_ 0 _ rfl; (with_reducible repeat (first | refine zG ?_ _ | refine zH ?_ | refine zD ?_ _)); exact BK1219.out) hb); have n4_ := zA (below_step (by repeat (first | (with_reducible first | exact HB.out | apply zC | apply zB | apply zF | refine zE ?_ GE1217.out | refine zE ?_ GE1218.out | refine zE ?_ GE1219.out) | exact HB.out)) hb); clear BK1217; clear BK1218; clear BK1219; clear HB; have HO1222 := n0_; have BK1217 := n1_; have BK1218 := n2_; have BK1219 := n3_; have HB := n4_; clear n0_ n1_ n2_ n3_ n4_; (try clear hb); (try clear hb2); (try clear hk); (try clear hi); (try clear ho0); obtain ⟨Ao12, co12, eo12⟩ := Kd.S_slice HO1222.out; subst eo12; have hcz13_0 : w11.cell? ⟨gb1219, 0, none⟩ = some (.int .i64 a0_0) := (zK BK1219.out 0).trans rfl; have hcz13_1 : w11.cell? ⟨gb1219, 1, none⟩ = some (.int .i64 a0_1) := (zK BK1219.out 1).trans rfl; have hcz13_2 : w11.cell? ⟨gb1219, 2, none⟩ = some (.int .i64 a0_2) := (zK BK1219.out 2).trans rfl; have hcz13_3 : w11.cell? ⟨gb1219, 3, none⟩ = some (.slice none 0 0) := (zK BK1219.out 3).trans rfl; have hfz13_0 := zJ BK1219.out 0; have hfz13_1 := zJ BK1219.out 1; have hfz13_2 := zJ BK1219.out 2; have hfz13_3 := zJ BK1219.out 3; have hcz14_0 : w11.cell? ⟨gb1218, 0, none⟩ = some (.int .i64 0) := (zK BK1218.out 0).trans rfl; have hcz14_1 : w11.cell? ⟨gb1218, 1, none⟩ = some (.int .i64 0) := (zK BK1218.out 1).trans rfl; have hcz14_2 : w11.cell? ⟨gb1218, 2, none⟩ = some (.int .i64 0) := (zK BK1218.out 2).trans rfl; have hcz14_3 : w11.cell? ⟨gb1218, 3, none⟩ = some (.slice none 0 0) := (zK BK1218.out 3).trans rfl; have hfz14_0 := zJ BK1218.out 0; have hfz14_1 := zJ BK1218.out 1; have hfz14_2 := zJ BK1218.out 2; have hfz14_3 := zJ BK1218.out 3))
 refine bodyPost_ret (results_cell_row rfl _ _ gb1218 81 #[.int .i64 a0_0, .int .i64 a0_1, .int .i64 a0_2, .slice Ao12 t1220.length co12] (0, 0) _ rfl (by (with_reducible repeat (first | refine zG ?_ _ | refine zH ?_ | refine zD ?_ _)); refine blk_put (cs := #[.int .i64 a0_0, .int .i64 a0_1, .int .i64 a0_2, .slice none 0 0]) ?_ 3 _ rfl; (with_reducible repeat (first | refine zG ?_ _ | refine zH ?_ | refine zD ?_ _)); refine blk_put (cs := #[.int .i64 a0_0, .int .i64 a0_1, .int .i64 0, .slice none 0 0]) ?_ 2 _ rfl; (with_reducible repeat (first | refine zG ?_ _ | refine zH ?_ | refine zD ?_ _)); refine blk_put (cs := #[.int .i64 a0_0, .int .i64 0, .int .i64 0, .slice none 0 0]) ?_ 1 _ rfl; (with_reducible repeat (first | refine zG ?_ _ | refine zH ?_ | refine zD ?_ _)); refine blk_put (cs := #[.int .i64 0, .int .i64 0, .int .i64 0, .slice none 0 0]) ?_ 0 _ rfl; (with_reducible repeat (first | refine zG ?_ _ | refine zH ?_ | refine zD ?_ _)); refine blk_far ?_ NB1218_1219.out _; (with_reducible repeat (first | refine zG ?_ _ | refine zH ?_ | refine zD ?_ _)); exact BK1218.out) Try.underlying81 rfl (by kernel_rfl)) rfl ?_
 exact ⟨_, by first | rfl | (simp [errW_none, errW_some] <;> rfl) | (simp [*, errW_none, errW_some] <;> rfl), by (with_reducible repeat (first | apply zY | apply zZ | apply yA)); exact yB (yC (p := ⟨gb1218, 3, none⟩) (yC (p := ⟨gb1218, 2, none⟩) (yC (p := ⟨gb1218, 1, none⟩) (yC (p := ⟨gb1218, 0, none⟩) (yC (p := ⟨gb1219, 3, none⟩) (Kd.S_types (Kd.S_types HO1222.out BK1219.out (by decide)) BK1218.out (by decide)) (fun _ hk => hk.1.2) (.slice Ao12 t1220.length co12)) (fun _ hk => hk.2) (.int .i64 a0_0)) (fun _ hk => hk.2) (.int .i64 a0_1)) (fun _ hk => hk.2) (.int .i64 a0_2)) (fun _ hk => hk.2) (.slice Ao12 t1220.length co12)) (fun _ hk => trivial), by repeat (first | (with_reducible first | exact HB.out | apply zC | apply zB | apply zF | refine zE ?_ GE1217.out | refine zE ?_ GE1218.out | refine zE ?_ GE1219.out) | exact HB.out)⟩
end Go.Proofs.Ytilimpjcdeeaiaa.G


namespace Go.Proofs.Ytilimpjcdeeaiaa.G
open Go.RowKit Go.Proofs.YtilimpjcdeeaiaaW.PrintWords Go.Proofs.YtilimpjcdeeaiaaW.PrintLast Go.Proofs.YtilimpjcdeeaiaaW.PrintMore
attribute [local go_sem] max2_int min2_int max_two min_two max_three min_three max_four min_four   -- for this text's walks alone
def laws_toByteS.l0 : Nat → List Int → List Int → Int → Option (List Int)
 | 0, _, _, _ => none
 | k + 1, x0, x3, x4 => if x4 < (x0.length : Int) then (if 0 ≤ x4 then (if x4 < (x3.length : Int) then (laws_toByteS.l0 k x0 (x3.set (x4 : Int).toNat (rd x0 x4)) (wrap64 (x4 + 1))) else (none)) else (none)) else (some x3)
def laws_toByteS.f (k : Nat) (l0 : List Int) : Option (List Int) := if 0 ≤ (l0.length : Int) then (if ((l0.length : Int) : Int).toNat ≤ 281474976710656 then (laws_toByteS.l0 k l0 (List.replicate ((l0.length : Int) : Int).toNat 0) 0) else (none)) else (none)
theorem laws_toByteS.mono_l : ∀ k, (∀ y0 y1 y2, LeO (laws_toByteS.l0 k y0 y1 y2) (laws_toByteS.l0 (k + 1) y0 y1 y2))
 | 0 => fun _ _ _ r h => by simp [laws_toByteS.l0] at h
 | k + 1 => by
  have ih0 := laws_toByteS.mono_l k
  ·intro y0 y1 y2
   unfold laws_toByteS.l0
   repeat' first
   | (with_reducible exact ih0 _ _ _)
   | (with_reducible exact LeO.refl _)
   | (with_reducible exact LeO.none _)
   | (with_reducible refine LeO.ite ?_ ?_)
   | (with_reducible refine LeO.bind ?_ (fun _ => ?_))
   | exact ih0 _ _ _
   | exact LeO.none _
   | refine LeO.ite ?_ ?_
   | refine LeO.bind ?_ (fun _ => ?_)
theorem laws_toByteS.mono : ∀ a0 k, LeO (laws_toByteS.f k a0) (laws_toByteS.f (k + 1) a0) := by
 intro a0 k
 have ih0 := laws_toByteS.mono_l k
 unfold laws_toByteS.f
 repeat' first
   | (with_reducible exact ih0 _ _ _)
   | (with_reducible exact LeO.refl _)
   | (with_reducible exact LeO.none _)
   | (with_reducible refine LeO.ite ?_ ?_)
   | (with_reducible refine LeO.bind ?_ (fun _ => ?_))
   | exact ih0 _ _ _
   | exact LeO.none _
   | refine LeO.ite ?_ ?_
   | refine LeO.bind ?_ (fun _ => ?_)
set_option maxHeartbeats 8000000 in
set_option maxRecDepth 100000 in
theorem laws_toByteS.calls (k : Nat) (A0 : Option Addr) (c0 : Nat) (l0 : List Int) (r : List Int) (w : World) (hr0 : Kd.C (Kd.int .u8) w A0 l0.length l0) (hc0 : l0.length ≤ c0) (h : laws_toByteS.f k l0 = some r) :
  Calls Try.prog 135 #[.slice A0 l0.length c0] w fun e w' => ∃ v0_ : Value, e = .returned (v0_) ∧ Kd.R (Kd.int .u8) 5 w' w.heap.size (fun _ => True) v0_ r ∧ Below w.heap.size w w' := by
 have HR0 := zA hr0
 have HC0 := zA hc0
 clear hr0 hc0
 have HB := zA (Below.refl w.heap.size w)
 have H : (if 0 ≤ (l0.length : Int) then (if ((l0.length : Int) : Int).toNat ≤ 281474976710656 then (laws_toByteS.l0 k l0 (List.replicate ((l0.length : Int) : Int).toNat 0) 0) else (none)) else (none)) = some r := h
 clear h
 by_cases c2 : 0 ≤ (l0.length : Int)
 ·rw [if_pos c2] at H
  have c2b0 := eq_true c2
  have c2b1 : decide (0 ≤ (l0.length : Int)) = true := zT c2
  clear c2
  by_cases c3 : ((l0.length : Int) : Int).toNat ≤ 281474976710656
  ·rw [if_pos c3] at H
   have c3b0 := eq_true c3
   have c3b1 : decide (((l0.length : Int) : Int).toNat ≤ 281474976710656) = true := zT c3
   clear c3
   obtain ⟨y1223, hy1223⟩ : ∃ y_ : List Int, y_ = (List.replicate ((l0.length : Int) : Int).toNat 0) := ⟨_, rfl⟩
   replace H : (laws_toByteS.l0 k l0 y1223 0) = some r := by first | (rw [hy1223]; with_reducible exact H) | (have H2_ := (zS _ _).symm.trans H; rw [hy1223]; with_reducible exact H2_) | (have H2_ := (zS _ _).symm.trans H; with_reducible exact H2_) | with_reducible exact H | (rw [hy1223]; exact H) | exact H
   have Ny1223 := zA hy1223
   clear hy1223
   have H' := zA H
   clear H
   go_enter Try.func135, Try.ntmps135
   go_wp2_with (first | ((with_reducible refine gate_dst (N := 7) rfl ?_); refine Kd.R_make (Kd.int .u8) _ 5 rfl (N := 7) rfl 22 _ _ rfl (l0.length : Int) rfl rfl Try.underlying22 (.int .u8 0) 1 info5 rfl (by decide) (by omega) 0 (ok := fun _ => True) (okp := fun _ => True) rfl (fun _ hk => hk) trivial (zI (by first | (with_reducible assumption) | assumption)) (Nat.le_trans (Nat.mul_le_mul_right _ (zI (by first | (with_reducible assumption) | assumption) : (l0.length : Int).toNat ≤ 281474976710656)) (by omega)) (Below.refl _ _) (Nat.le_refl _) ?_; intro v1224 w4 ho5 hb hg_ hnew_; clear hg_ hnew_; (first | rw [← Ny1223.out] at ho5 | (simp only [Int.reduceToNat] at ho5; rw [← Ny1223.out] at ho5)); have n0_ := zA (Kd.R_lower ho5 (zL (by repeat (first | (with_reducible first | exact HB.out | apply zC | apply zB | apply zF) | exact HB.out)))); have n1_ := zA (below_step (by repeat (first | (with_reducible first | exact HB.out | apply zC | apply zB | apply zF) | exact HB.out)) hb); clear HB; have HO1225 := n0_; have HB := n1_; clear n0_ n1_; clear hb ho5))
   go_loopg [4] k (fun kq v4 w' => ∃ (x3_1 : List Int) (x4_1 : Int), v4 = .int .i64 x4_1 ∧ Aside0 (laws_toByteS.l0 kq l0 x3_1 x4_1 = some r) ∧ Aside0 (kq ≤ k) ∧ Aside0 (Kd.R (Kd.int .u8) 5 w' w.heap.size (fun _ => True) v1224 x3_1) ∧ Aside0 (Below w.heap.size w w'))
   case atStart => exact ⟨(y1223), (0), (by first | rfl | (simp; done) | (simp [*]; done)), H', ⟨Nat.le_refl _⟩, ⟨by (with_reducible repeat (first | apply zN | apply zM | apply zO)); exact HO1225.out⟩, ⟨by repeat (first | (with_reducible first | exact HB.out | apply zC | apply zB | apply zF) | exact HB.out)⟩⟩
   case round =>
    clear H'
    try clear c1
    try clear c2
    try clear c2b0
    try clear c2b1
    try clear p2
    try clear c3
    try clear c3b0
    try clear c3b1
    obtain ⟨x3_1, x4_1, rfl, HA, HK1, HO_3, HB⟩ := hrel
    cases gk with
    | zero => exact absurd HA.out (by simp [laws_toByteS.l0])
    | succ k1 =>
     have H := HA.out
     clear HA
     simp only [laws_toByteS.l0] at H
     by_cases c6 : x4_1 < (l0.length : Int)
     ·rw [if_pos c6] at H
      have c6b0 : decide (x4_1 < (l0.length : Int)) = true := zT c6
      clear c6
      by_cases c7 : 0 ≤ x4_1
      ·rw [if_pos c7] at H
       have c7b0 : decide (0 ≤ x4_1) = true := zT c7
       clear c7
       by_cases c8 : x4_1 < (x3_1.length : Int)
       ·rw [if_pos c8] at H
        have c8b0 : decide (x4_1 < (x3_1.length : Int)) = true := zT c8
        clear c8
        obtain ⟨y1227, hy1227⟩ : ∃ y_ : List Int, y_ = (x3_1.set (x4_1 : Int).toNat (rd l0 x4_1)) := ⟨_, rfl⟩
        replace H : (laws_toByteS.l0 k1 l0 y1227 (wrap64 (x4_1 + 1))) = some r := by first | (rw [hy1227]; with_reducible exact H) | (have H2_ := (zS _ _).symm.trans H; rw [hy1227]; with_reducible exact H2_) | (have H2_ := (zS _ _).symm.trans H; with_reducible exact H2_) | with_reducible exact H | (rw [hy1227]; exact H) | exact H
        have Ny1227 := zA hy1227
        clear hy1227
        have H' := zA H
        clear H
        have p1226 : 0 ≤ (x4_1 : Int) := zI (by first | (with_reducible assumption) | assumption)
        have q1226 : x4_1 < (l0.length : Int) := zI (by first | (with_reducible assumption) | assumption)
        obtain ⟨ad1226, e1226, hx1226_0⟩ := Kd.at_int HR0.out x4_1 p1226 q1226
        cases e1226
        replace hx1226_0 := (HB.out.cell (World.block_lt_of_cell? w _ hx1226_0)).trans hx1226_0
        replace p1226 := eq_true p1226
        replace q1226 := eq_true q1226
        have p9 : 0 ≤ (x4_1 : Int) := zI (by first | (with_reducible assumption) | assumption)
        have q9 : (x4_1 : Int) < ((x3_1.length : Int) : Int) := zI (by first | (with_reducible assumption) | assumption)
        obtain ⟨go9, co9, eo9, gb9, gl9, cl9, HG9⟩ := Kd.R_form HO_3.out (by omega)
        (first | cases eo9 | (injection eo9 with ea_ en_ ec_; (first | subst ea_ | (injection ea_ with ea_; subst ea_)); subst ec_; clear en_))
        have GB9 := zA gb9
        have GG9 := zA HG9
        clear gb9 gl9 HG9
        obtain ⟨hx9_0, hf9_0⟩ := Kd.R_celln 0 HO_3.out (x4_1 : Int) p9 q9
        replace p9 := eq_true p9
        replace q9 := eq_true q9
        have HP10 := Kd.R_putg HO_3.out (x4_1 : Int) (rd l0 x4_1)
        go_wp2_with (first | ((with_reducible refine gate_store (t := 5) (p := 20) rfl ?_); refine store_event (t := 5) (p := 20) (v := ?vo_w11) (w1 := (wr.setCell ⟨go9, (x4_1 : Int).toNat, none⟩ (.int .u8 (rd l0 x4_1)))) ?hg ?ho ?hn ?hr ?_; (case ho => rfl); (case hg => rfl); (case hn => rfl); (case hr => first | (go_simp; done) | (go_simp; rfl)); intro w11 hw; have hg : wr.grownBy w11 (some go9) := (by rw [hw]; exact HP10.2); have hp_ : Kd.R (Kd.int .u8) 5 w11 w.heap.size (fun _ => True) (.slice (some ⟨go9, 0, none⟩) x3_1.length co9) y1227 := (by rw [hw, Ny1227.out]; exact HP10.1); clear HP10; have n0_ := zA (hp_); have n1_ := zA ((by rw [hw]; exact zE (HB.out) GB9.out : Below w.heap.size w w11)); clear HO_3; clear HB; have HO_3 := n0_; have HB := n1_; clear n0_ n1_; clear hg hw hp_))
        go_roundg k1
        case measure => have := HK1.out; omega
        case rel => exact ⟨(y1227), (wrap64 (x4_1 + 1)), (by first | rfl | (simp; done) | (simp [*]; done)), H', ⟨by have := HK1.out; omega⟩, ⟨by (with_reducible repeat (first | apply zN | apply zM | apply zO)); exact HO_3.out⟩, ⟨by repeat (first | (with_reducible first | exact HB.out | apply zC | apply zB | apply zF) | exact HB.out)⟩⟩
       ·rw [if_neg c8] at H
        exact absurd H (by simp)
      ·rw [if_neg c7] at H
       exact absurd H (by simp)
     ·rw [if_neg c6] at H
      have c6b0 : decide (x4_1 < (l0.length : Int)) = false := decide_eq_false c6
      clear c6
      obtain rfl := Option.some.inj H
      go_wp2
      go_ret
      exact ⟨_, by first | rfl | (simp [errW_none, errW_some] <;> rfl) | (simp [*, errW_none, errW_some] <;> rfl), by (with_reducible repeat (first | apply zN | apply zM | apply zO)); exact HO_3.out, by repeat (first | (with_reducible first | exact HB.out | apply zC | apply zB | apply zF) | exact HB.out)⟩
  ·rw [if_neg c3] at H
   exact absurd H (by simp)
 ·rw [if_neg c2] at H
  exact absurd H (by simp)
theorem laws_toByteS.go (l : List Int) (hm : l.length ≤ 281474976710656) (d : Nat) : ∀ (i k : Nat), l.length - i = d → i ≤ l.length → d < k →
  laws_toByteS.l0 k l (l.take i ++ List.replicate (l.length - i) 0) (i : Int) = some l := by
 induction d with
 | zero =>
  intro i k hd hi' hk
  obtain ⟨k, rfl⟩ : ∃ m, k = m + 1 := ⟨k - 1, by omega⟩
  obtain rfl : i = l.length := by omega
  simp only [laws_toByteS.l0]
  rw [if_neg (by omega)]
  simp
 | succ d ih =>
  intro i k hd hi' hk
  obtain ⟨k, rfl⟩ : ∃ m, k = m + 1 := ⟨k - 1, by omega⟩
  have hlt : i < l.length := by omega
  simp only [laws_toByteS.l0]
  rw [if_pos (by omega), if_pos (by omega), if_pos (by simp; omega)]
  have hrd : rd l (i : Int) = l[i] := by simp [rd, hlt]
  have hw : wrap64 ((i : Int) + 1) = ((i + 1 : Nat) : Int) := by unfold wrap64; omega
  rw [hrd, hw]
  have hs : (l.take i ++ List.replicate (l.length - i) 0).set ((i : Int)).toNat l[i] = l.take (i + 1) ++ List.replicate (l.length - (i + 1)) 0 := by
   rw [Int.toNat_natCast, show l.length - i = (l.length - (i + 1)) + 1 by omega, List.replicate_succ, List.take_succ_eq_append_getElem hlt, List.append_assoc]
   rw [List.set_append_right _ _ (by simp; omega)]
   simp [Nat.min_eq_left (Nat.le_of_lt hlt)]
  rw [hs, ih (i + 1) k (by omega) (by omega) (by omega)]
theorem laws_toByteS.ev (l : List Int) (hm : l.length ≤ 281474976710656) : ∃ k, laws_toByteS.f k l = some l :=
 ⟨l.length + 1, by unfold laws_toByteS.f; rw [if_pos (by omega), if_pos (by omega)]; have := laws_toByteS.go l hm l.length 0 (l.length + 1) (by omega) (by omega) (by omega); simpa using this⟩
theorem laws_toByteS.E (l : List Int) (hm : l.length ≤ 1048576) : Ev (fun k => laws_toByteS.f k l) l := by
 obtain ⟨k, h⟩ := laws_toByteS.ev l (by omega)
 exact Ev.of (fun k => laws_toByteS.mono _ k) h
end Go.Proofs.Ytilimpjcdeeaiaa.G


namespace Go.Proofs.Ytilimpjcdeeaiaa.G
open Go.RowKit Go.Proofs.YtilimpjcdeeaiaaW.PrintWords Go.Proofs.YtilimpjcdeeaiaaW.PrintLast Go.Proofs.YtilimpjcdeeaiaaW.PrintMore
attribute [local go_sem] max2_int min2_int max_two min_two max_three min_three max_four min_four   -- for this text's walks alone
def laws_toFault.f (a0_0 : Int) (a0_1 : Int) : Option (Int × Int) := some (a0_0, a0_1)
set_option maxHeartbeats 8000000 in
set_option maxRecDepth 100000 in
theorem laws_toFault.calls (a0_0 : Int) (a0_1 : Int) (r1 : Int) (r2 : Int) (w : World) (h : laws_toFault.f a0_0 a0_1 = some (r1, r2)) :
  Calls Try.prog 136 #[.agg #[.int .i64 a0_0, .int .i64 a0_1]] w fun e w' => e = .returned (.agg #[.int .i64 r1, .int .i64 r2]) ∧ Below w.heap.size w w' := by
 have hu74 := Try.underlying74
 have hu82 := Try.underlying82
 have HB := zA (Below.refl w.heap.size w)
 have H : (some (a0_0, a0_1)) = some (r1, r2) := h
 clear h
 simp only [Option.some.injEq, Prod.mk.injEq] at H
 obtain ⟨rfl, rfl⟩ := H
 go_enter Try.func136, Try.ntmps136
 go_wp2_with (first | ((with_reducible refine gate_dst (N := 1) rfl ?_); refine box_event ?hg (N := 1) ?hd (cs := #[.int .i64 a0_0, .int .i64 a0_1]) (t := 74) ?hr ?_; (case hd => rfl); (case hg => rfl); (case hr => first | (go_simp; done) | (go_simp; rfl)); intro gb1228 hg w2 hbox hb; have n0_ := zA (below_step (by repeat (first | (with_reducible first | exact HB.out | apply zC | apply zB | apply zF) | exact HB.out)) hb); have n1_ := zA (hbox); have n2_ := zA ((by rw [hg]; exact (zL (by repeat (first | (with_reducible first | exact HB.out | apply zC | apply zB | apply zF) | exact HB.out))) : w.heap.size ≤ gb1228)); have n3_ := zA ((by rw [hg]; exact (zL (by repeat (first | (with_reducible first | exact HB.out | apply zC | apply zB | apply zF) | exact HB.out))) : w.heap.size ≤ gb1228)); clear HB; have HB := n0_; have BK1228 := n1_; have GW1228 := n2_; have GE1228 := n3_; clear n0_ n1_ n2_ n3_; clear hb hbox hg) | ((with_reducible refine gate_dst (N := 2) rfl ?_); refine box_event ?hg (N := 2) ?hd (cs := #[.int .i64 0, .int .i64 0]) (t := 82) ?hr ?_; (case hd => rfl); (case hg => rfl); (case hr => first | (go_simp; done) | (go_simp; rfl)); intro gb1229 hg w3 hbox hb; have n0_ := zA (blk_below (g := gb1228) (o := .cells #[.int .i64 a0_0, .int .i64 a0_1] 74 (0, 0)) (by (with_reducible repeat (first | refine zG ?_ _ | refine zH ?_ | refine zD ?_ _)); exact BK1228.out) hb); have n1_ := zA (below_step (by repeat (first | (with_reducible first | exact HB.out | apply zC | apply zB | apply zF | refine zE ?_ GE1228.out) | exact HB.out)) hb); have n2_ := zA (hbox); have n3_ := zA ((by rw [hg]; exact (zL (by repeat (first | (with_reducible first | exact HB.out | apply zC | apply zB | apply zF | refine zE ?_ GE1228.out) | exact HB.out))) : w.heap.size ≤ gb1229)); have n4_ := zA ((by rw [hg]; exact (zL (by repeat (first | (with_reducible first | exact HB.out | apply zC | apply zB | apply zF | refine zE ?_ GE1228.out) | exact HB.out))) : w.heap.size ≤ gb1229)); have n5_ := zA ((by rw [hg]; exact Nat.ne_of_lt (blk_lt (g := gb1228) (o := .cells #[.int .i64 a0_0, .int .i64 a0_1] 74 (0, 0)) (by (with_reducible repeat (first | refine zG ?_ _ | refine zH ?_ | refine zD ?_ _)); exact BK1228.out)) : gb1228 ≠ gb1229)); have n6_ := zA ((by rw [hg]; exact Nat.ne_of_gt (blk_lt (g := gb1228) (o := .cells #[.int .i64 a0_0, .int .i64 a0_1] 74 (0, 0)) (by (with_reducible repeat (first | refine zG ?_ _ | refine zH ?_ | refine zD ?_ _)); exact BK1228.out)) : gb1229 ≠ gb1228)); clear BK1228; clear HB; have BK1228 := n0_; have HB := n1_; have BK1229 := n2_; have GW1229 := n3_; have GE1229 := n4_; have NB1228_1229 := n5_; have NB1229_1228 := n6_; clear n0_ n1_ n2_ n3_ n4_ n5_ n6_; clear hb hbox hg) | ((with_reducible refine gate_dst (N := 3) rfl ?_); refine box_event ?hg (N := 3) ?hd (cs := #[.int .i64 0, .int .i64 0]) (t := 82) ?hr ?_; (case hd => rfl); (case hg => rfl); (case hr => first | (go_simp; done) | (go_simp; rfl)); intro gb1230 hg w4 hbox hb; have n0_ := zA (blk_below (g := gb1228) (o := .cells #[.int .i64 a0_0, .int .i64 a0_1] 74 (0, 0)) (by (with_reducible repeat (first | refine zG ?_ _ | refine zH ?_ | refine zD ?_ _)); exact BK1228.out) hb); have n1_ := zA (blk_below (g := gb1229) (o := .cells #[.int .i64 0, .int .i64 0] 82 (0, 0)) (by (with_reducible repeat (first | refine zG ?_ _ | refine zH ?_ | refine zD ?_ _)); exact BK1229.out) hb); have n2_ := zA (below_step (by repeat (first | (with_reducible first | exact HB.out | apply zC | apply zB | apply zF | refine zE ?_ GE1228.out | refine zE ?_ GE1229.out) | exact HB.out)) hb); have n3_ := zA (hbox); have n4_ := zA ((by rw [hg]; exact (zL (by repeat (first | (with_reducible first | exact HB.out | apply zC | apply zB | apply zF | refine zE ?_ GE1228.out | refine zE ?_ GE1229.out) | exact HB.out))) : w.heap.size ≤ gb1230)); have n5_ := zA ((by rw [hg]; exact (zL (by repeat (first | (with_reducible first | exact HB.out | apply zC | apply zB | apply zF | refine zE ?_ GE1228.out | refine zE ?_ GE1229.out) | exact HB.out))) : w.heap.size ≤ gb1230)); have n6_ := zA ((by rw [hg]; exact Nat.ne_of_lt (blk_lt (g := gb1228) (o := .cells #[.int .i64 a0_0, .int .i64 a0_1] 74 (0, 0)) (by (with_reducible repeat (first | refine zG ?_ _ | refine zH ?_ | refine zD ?_ _)); exact BK1228.out)) : gb1228 ≠ gb1230)); have n7_ := zA ((by rw [hg]; exact Nat.ne_of_gt (blk_lt (g := gb1228) (o := .cells #[.int .i64 a0_0, .int .i64 a0_1] 74 (0, 0)) (by (with_reducible repeat (first | refine zG ?_ _ | refine zH ?_ | refine zD ?_ _)); exact BK1228.out)) : gb1230 ≠ gb1228)); have n8_ := zA ((by rw [hg]; exact Nat.ne_of_lt (blk_lt (g := gb1229) (o := .cells #[.int .i64 0, .int .i64 0] 82 (0, 0)) (by (with_reducible repeat (first | refine zG ?_ _ | refine zH ?_ | refine zD ?_ _)); exact BK1229.out)) : gb1229 ≠ gb1230)); have n9_ := zA ((by rw [hg]; exact Nat.ne_of_gt (blk_lt (g := gb1229) (o := .cells #[.int .i64 0, .int .i64 0] 82 (0, 0)) (by (with_reducible repeat (first | refine zG ?_ _ | refine zH ?_ | refine zD ?_ _)); exact BK1229.out)) : gb1230 ≠ gb1229)); clear BK1228; clear BK1229; clear HB; have BK1228 := n0_; have BK1229 := n1_; have HB := n2_; have BK1230 := n3_; have GW1230 := n4_; have GE1230 := n5_; have NB1228_1230 := n6_; have NB1230_1228 := n7_; have NB1229_1230 := n8_; have NB1230_1229 := n9_; clear n0_ n1_ n2_ n3_ n4_ n5_ n6_ n7_ n8_ n9_; clear hb hbox hg; have hnb5 := NB1228_1229.out; have hnc5 := NB1229_1228.out; have hnb6 := NB1228_1230.out; have hnc6 := NB1230_1228.out; have hcz7_0 : w4.cell? ⟨gb1228, 0, none⟩ = some (.int .i64 a0_0) := (zK BK1228.out 0).trans rfl; have hcz7_1 : w4.cell? ⟨gb1228, 1, none⟩ = some (.int .i64 a0_1) := (zK BK1228.out 1).trans rfl; have hfz7_0 := zJ BK1228.out 0; have hfz7_1 := zJ BK1228.out 1; have hnb8 := NB1230_1229.out; have hnc8 := NB1229_1230.out; have hcz9_0 : w4.cell? ⟨gb1230, 0, none⟩ = some (.int .i64 0) := (zK BK1230.out 0).trans rfl; have hcz9_1 : w4.cell? ⟨gb1230, 1, none⟩ = some (.int .i64 0) := (zK BK1230.out 1).trans rfl; have hfz9_0 := zJ BK1230.out 0; have hfz9_1 := zJ BK1230.out 1; have hcz10_0 : w4.cell? ⟨gb1229, 0, none⟩ = some (.int .i64 0) := (zK BK1229.out 0).trans rfl; have hcz10_1 : w4.cell? ⟨gb1229, 1, none⟩ = some (.int .i64 0) := (zK BK1229.out 1).trans rfl; have hfz10_0 := zJ BK1229.out 0; have hfz10_1 := zJ BK1229.out 1))
 refine bodyPost_ret (results_cell_row rfl _ _ gb1229 82 #[.int .i64 a0_0, .int .i64 a0_1] (0, 0) _ rfl (by (with_reducible repeat (first | refine zG ?_ _ | refine zH ?_ | refine zD ?_ _)); refine blk_put (cs := #[.int .i64 a0_0, .int .i64 0]) ?_ 1 _ rfl; (with_reducible repeat (first | refine zG ?_ _ | refine zH ?_ | refine zD ?_ _)); refine blk_put (cs := #[.int .i64 0, .int .i64 0]) ?_ 0 _ rfl; (with_reducible repeat (first | refine zG ?_ _ | refine zH ?_ | refine zD ?_ _)); refine blk_far ?_ NB1229_1230.out _; (with_reducible repeat (first | refine zG ?_ _ | refine zH ?_ | refine zD ?_ _)); refine blk_far ?_ NB1229_1230.out _; (with_reducible repeat (first | refine zG ?_ _ | refine zH ?_ | refine zD ?_ _)); exact BK1229.out) Try.underlying82 rfl (by kernel_rfl)) rfl ?_
 exact ⟨by first | rfl | (simp [errW_none, errW_some] <;> rfl) | (simp [*, errW_none, errW_some] <;> rfl), by repeat (first | (with_reducible first | exact HB.out | apply zC | apply zB | apply zF | refine zE ?_ GE1228.out | refine zE ?_ GE1229.out | refine zE ?_ GE1230.out) | exact HB.out)⟩
end Go.Proofs.Ytilimpjcdeeaiaa.G


namespace Go.Proofs.Ytilimpjcdeeaiaa.G
open Go.RowKit Go.Proofs.YtilimpjcdeeaiaaW.PrintWords Go.Proofs.YtilimpjcdeeaiaaW.PrintLast Go.Proofs.YtilimpjcdeeaiaaW.PrintMore
attribute [local go_sem] max2_int min2_int max_two min_two max_three min_three max_four min_four   -- for this text's walks alone
def laws_toFeed.f (k : Nat) (l0_0 : List Int) (a0_1 : Int) (a0_2 : Bool) (a0_3 : Int) (a0_4 : Int) : Option (List Int × Int × Bool × Int × Int) := (laws_toByteS.f k l0_0).bind fun t => some (t, a0_1, a0_2, a0_3, a0_4)
theorem laws_toFeed.mono : ∀ a0 a1 a2 a3 a4 k, LeO (laws_toFeed.f k a0 a1 a2 a3 a4) (laws_toFeed.f (k + 1) a0 a1 a2 a3 a4) := by
 intro a0 a1 a2 a3 a4 k
 unfold laws_toFeed.f
 exact LeO.bind (laws_toByteS.mono _ _) (fun _ => LeO.refl _)
set_option maxRecDepth 100000 in
theorem laws_toFeed.calls (k : Nat) (A0_0 : Option Addr) (c0_0 : Nat) (l0_0 : List Int) (a0_1 : Int) (a0_2 : Bool) (a0_3 : Int) (a0_4 : Int) (r1 : List Int) (r2 : Int) (r3 : Bool) (r4 : Int) (r5 : Int) (w : World) (hr0_0 : Kd.C (Kd.int .u8) w A0_0 l0_0.length l0_0) (hc0_0 : l0_0.length ≤ c0_0) (h : laws_toFeed.f k l0_0 a0_1 a0_2 a0_3 a0_4 = some (r1, r2, r3, r4, r5)) :
  Calls Try.prog 96 #[.agg #[.slice A0_0 l0_0.length c0_0, .int .i64 a0_1, .bool a0_2, .int .i64 a0_3, .int .i64 a0_4]] w fun e w' => ∃ v0_ : Value, e = .returned (.agg #[v0_, .int .i64 r2, .bool r3, .int .i64 r4, .int .i64 r5]) ∧ Kd.R (Kd.int .u8) 5 w' w.heap.size (fun _ => True) v0_ r1 ∧ Below w.heap.size w w' := by
 unfold laws_toFeed.f at h
 obtain ⟨t, ht, h⟩ := Option.bind_eq_some_iff.1 h
 simp only [Option.some.injEq, Prod.mk.injEq] at h
 obtain ⟨rfl, rfl, rfl, rfl, rfl⟩ := h
 have HE := zA ht
 have HR0 := zA hr0_0
 have HC0 := zA hc0_0
 clear ht hr0_0 hc0_0
 go_enter Try.func96, Try.ntmps96
 go_upto_region 2 with (fail)
 have hq1 := zD (zD (blk_new w (Obj.cells #[.slice A0_0 l0_0.length c0_0, .int .i64 a0_1, .bool a0_2, .int .i64 a0_3, .int .i64 a0_4] 76)) (Obj.cells #[.slice none 0 0, .int .i64 0, .bool false, .int .i64 0, .int .i64 0] 84)) (Obj.cells #[.slice none 0 0, .int .i64 0, .bool false, .int .i64 0, .int .i64 0] 84)
 have hq2 := zD (blk_new (w.alloc (Obj.cells #[.slice A0_0 l0_0.length c0_0, .int .i64 a0_1, .bool a0_2, .int .i64 a0_3, .int .i64 a0_4] 76)) (Obj.cells #[.slice none 0 0, .int .i64 0, .bool false, .int .i64 0, .int .i64 0] 84)) (Obj.cells #[.slice none 0 0, .int .i64 0, .bool false, .int .i64 0, .int .i64 0] 84)
 have hq3 := blk_new ((w.alloc (Obj.cells #[.slice A0_0 l0_0.length c0_0, .int .i64 a0_1, .bool a0_2, .int .i64 a0_3, .int .i64 a0_4] 76)).alloc (Obj.cells #[.slice none 0 0, .int .i64 0, .bool false, .int .i64 0, .int .i64 0] 84)) (Obj.cells #[.slice none 0 0, .int .i64 0, .bool false, .int .i64 0, .int .i64 0] 84)
 rw [yD] at hq2
 rw [yD, yD] at hq3
 have HB1 := zA (zC (zC (zC (Below.refl w.heap.size w) (Obj.cells #[.slice A0_0 l0_0.length c0_0, .int .i64 a0_1, .bool a0_2, .int .i64 a0_3, .int .i64 a0_4] 76)) (Obj.cells #[.slice none 0 0, .int .i64 0, .bool false, .int .i64 0, .int .i64 0] 84)) (Obj.cells #[.slice none 0 0, .int .i64 0, .bool false, .int .i64 0, .int .i64 0] 84))
 have hn : w.heap.size ≠ w.heap.size + 1 + 1 := by omega
 have hn2 : w.heap.size + 1 ≠ w.heap.size + 1 + 1 := by omega
 have hl2 : w.heap.size ≤ w.heap.size + 1 := by omega
 have hl3 : w.heap.size ≤ w.heap.size + 1 + 1 := by omega
 generalize w.heap.size + 1 + 1 = g3 at hq3 hn hn2 hl3 ⊢
 generalize w.heap.size + 1 = g2 at hq2 hn2 hl2 ⊢
 have HL2 := zA hl2
 have HL3 := zA hl3
 clear hl2 hl3
 generalize w.heap.size = g1 at hq1 hn ⊢
 generalize ((w.alloc (Obj.cells #[.slice A0_0 l0_0.length c0_0, .int .i64 a0_1, .bool a0_2, .int .i64 a0_3, .int .i64 a0_4] 76)).alloc (Obj.cells #[.slice none 0 0, .int .i64 0, .bool false, .int .i64 0, .int .i64 0] 84)).alloc (Obj.cells #[.slice none 0 0, .int .i64 0, .bool false, .int .i64 0, .int .i64 0] 84) = W1 at hq1 hq2 hq3 HB1 ⊢
 have HQ1 := zA hq1
 have HQ2 := zA hq2
 have HQ3 := zA hq3
 have p0 := zK hq1 0
 simp at p0
 clear hq1 hq2 hq3
 go_wp2_with fail
 refine (laws_toByteS.calls k A0_0 c0_0 l0_0 t _ (Kd.C_below HR0.out HB1.out) HC0.out HE.out).mono ?_
 rintro e_ w2 ⟨v, rfl, ho, hb2⟩
 obtain ⟨A2, c2, e2⟩ := Kd.R_slice ho
 subst e2
 have HO := zA (Kd.R_lower ho HB1.out.size)
 have HQ4 := zA (blk_below HQ1.out hb2)
 have HQ5 := zA (blk_below HQ2.out hb2)
 have HQ6 := zA (blk_below HQ3.out hb2)
 have HB2 := zA (Below.trans HB1.out (hb2.mono HB1.out.size))
 clear hb2 ho p0 HQ1 HQ2 HQ3
 have p0 := zK HQ4.out 0
 have p1 := zK HQ4.out 1
 have p2 := zK HQ4.out 2
 have p3 := zK HQ4.out 3
 have p4 := zK HQ4.out 4
 simp at p0 p1 p2 p3 p4
 have u0 := zK HQ6.out 0
 have u1 := zK HQ6.out 1
 have u2 := zK HQ6.out 2
 have u3 := zK HQ6.out 3
 have u4 := zK HQ6.out 4
 simp at u0 u1 u2 u3 u4
 have f0 := zJ HQ6.out 0
 have f1 := zJ HQ6.out 1
 have f2 := zJ HQ6.out 2
 have f3 := zJ HQ6.out 3
 have f4 := zJ HQ6.out 4
 have hn' : g3 ≠ g1 := fun e => hn e.symm
 go_upto_region 5 with (fail)
 have HQ7 := zA (blk_set (blk_set (blk_set HQ6.out 0 (.slice A2 t.length c2)) 1 (.int .i64 a0_1)) 2 (.bool a0_2))
 have HQ8 := zA (blk_far (p := ⟨g3, 2, none⟩) (blk_far (p := ⟨g3, 1, none⟩) (blk_far (p := ⟨g3, 0, none⟩) HQ4.out hn (.slice A2 t.length c2)) hn (.int .i64 a0_1)) hn (.bool a0_2))
 have HQ9 := zA (blk_far (p := ⟨g3, 2, none⟩) (blk_far (p := ⟨g3, 1, none⟩) (blk_far (p := ⟨g3, 0, none⟩) HQ5.out hn2 (.slice A2 t.length c2)) hn2 (.int .i64 a0_1)) hn2 (.bool a0_2))
 have HO2 := zA (Kd.R_set (Kd.R_set (Kd.R_set HO.out HQ6.out (by decide) 0 (.slice A2 t.length c2)) (blk_set HQ6.out 0 (.slice A2 t.length c2)) (by decide) 1 (.int .i64 a0_1)) (blk_set (blk_set HQ6.out 0 (.slice A2 t.length c2)) 1 (.int .i64 a0_1)) (by decide) 2 (.bool a0_2))
 have HB3 := zA (zE (g := g3) (j := 2) (v := .bool a0_2) (zE (g := g3) (j := 1) (v := .int .i64 a0_1) (zE (g := g3) (j := 0) (v := .slice A2 t.length c2) HB2.out HL3.out) HL3.out) HL3.out)
 generalize ((w2.setCell ⟨g3, 0, none⟩ (.slice A2 t.length c2)).setCell ⟨g3, 1, none⟩ (.int .i64 a0_1)).setCell ⟨g3, 2, none⟩ (.bool a0_2) = W3 at HQ7 HQ8 HQ9 HO2 HB3 ⊢
 clear p0 p1 p2 p3 p4 u0 u1 u2 u3 u4 f0 f1 f2 f3 f4 HQ4 HQ5 HQ6 HO HB2
 have p3 := zK HQ8.out 3
 have p4 := zK HQ8.out 4
 simp at p3 p4
 go_wp2_with fail
 refine (laws_toFault.calls a0_3 a0_4 a0_3 a0_4 _ rfl).mono ?_
 rintro e_ w4 ⟨rfl, hb4⟩
 have HQ10 := zA (blk_below HQ7.out hb4)
 have HQ11 := zA (blk_below HQ9.out hb4)
 have HO3 := zA (Kd.R_below HO2.out hb4)
 have HB4 := zA (Below.trans HB3.out (hb4.mono HB3.out.size))
 clear hb4 p3 p4
 have u0 := zK HQ10.out 0
 have u1 := zK HQ10.out 1
 have u2 := zK HQ10.out 2
 have u3 := zK HQ10.out 3
 have u4 := zK HQ10.out 4
 simp at u0 u1 u2 u3 u4
 have f0 := zJ HQ10.out 0
 have f1 := zJ HQ10.out 1
 have f2 := zJ HQ10.out 2
 have f3 := zJ HQ10.out 3
 have f4 := zJ HQ10.out 4
 have p0 := zK HQ11.out 0
 have p1 := zK HQ11.out 1
 have p2 := zK HQ11.out 2
 have p3 := zK HQ11.out 3
 have p4 := zK HQ11.out 4
 simp at p0 p1 p2 p3 p4
 have j0 := zJ HQ11.out 0
 have j1 := zJ HQ11.out 1
 have j2 := zJ HQ11.out 2
 have j3 := zJ HQ11.out 3
 have j4 := zJ HQ11.out 4
 go_wp2
 have e0 := (blk_far (p := ⟨g3, 4, none⟩) (blk_far (p := ⟨g3, 3, none⟩) HQ11.out hn2 (.int .i64 a0_3)) hn2 (.int .i64 a0_4))
 have r0 := (Kd.R_set (Kd.R_set HO3.out HQ10.out (by decide) 3 (.int .i64 a0_3)) (blk_set HQ10.out 3 (.int .i64 a0_3)) (by decide) 4 (.int .i64 a0_4))
 refine bodyPost_ret (results_cell_row rfl _ _ g2 84 #[.slice A2 t.length c2, .int .i64 a0_1, .bool a0_2, .int .i64 a0_3, .int .i64 a0_4] (0, 0) _ rfl (by exact (blk_set (blk_set (blk_set (blk_set (blk_set e0 0 (.slice A2 t.length c2)) 1 (.int .i64 a0_1)) 2 (.bool a0_2)) 3 (.int .i64 a0_3)) 4 (.int .i64 a0_4))) Try.underlying84 rfl (by kernel_rfl)) rfl ?_
 exact ⟨_, rfl, (Kd.R_set (Kd.R_set (Kd.R_set (Kd.R_set (Kd.R_set r0 e0 (by decide) 0 (.slice A2 t.length c2)) (blk_set e0 0 (.slice A2 t.length c2)) (by decide) 1 (.int .i64 a0_1)) (blk_set (blk_set e0 0 (.slice A2 t.length c2)) 1 (.int .i64 a0_1)) (by decide) 2 (.bool a0_2)) (blk_set (blk_set (blk_set e0 0 (.slice A2 t.length c2)) 1 (.int .i64 a0_1)) 2 (.bool a0_2)) (by decide) 3 (.int .i64 a0_3)) (blk_set (blk_set (blk_set (blk_set e0 0 (.slice A2 t.length c2)) 1 (.int .i64 a0_1)) 2 (.bool a0_2)) 3 (.int .i64 a0_3)) (by decide) 4 (.int .i64 a0_4)), (zE (zE (zE (zE (zE (zE (zE HB4.out HL3.out) HL3.out) HL2.out) HL2.out) HL2.out) HL2.out) HL2.out)⟩
theorem toFeed_ev (l : List Int) (n : Int) (o : Bool) (fc fa : Int) (h : l.length ≤ 1048576) : Ev (fun k => laws_toFeed.f k l n o fc fa) (l, n, o, fc, fa) := by
 unfold laws_toFeed.f
 exact Ev.bind (laws_toByteS.E l h) (Ev.now _)
end Go.Proofs.Ytilimpjcdeeaiaa.G


namespace Go.Proofs.Ytilimpjcdeeaiaa.G
open Go.RowKit Go.Proofs.YtilimpjcdeeaiaaW.PrintWords Go.Proofs.YtilimpjcdeeaiaaW.PrintLast Go.Proofs.YtilimpjcdeeaiaaW.PrintMore
attribute [local go_sem] max2_int min2_int max_two min_two max_three min_three max_four min_four   -- for this text's walks alone
def laws_toDesk.f (k : Nat) (a0_0 : Int) (a0_1 : Int) (a0_2 : Int) (a0_3 : Int) (l0_4 : List (List Int)) (a0_5 : Int) (l0_6 : List Int) (a0_7 : Int) (a0_8 : Bool) (a0_9 : Int) (a0_10 : Int) : Option (Int × Int × Int × Int × (List (List Int)) × Int × List Int × Int × Bool × Int × Int) := (laws_toPicture.f a0_1 a0_2 a0_3 l0_4).bind fun bt1234 => ((laws_toFeed.f k l0_6 a0_7 a0_8 a0_9 a0_10).bind fun bt1240 => (some (a0_0, bt1234.1, bt1234.2.1, bt1234.2.2.1, bt1234.2.2.2, a0_5, bt1240.1, bt1240.2.1, bt1240.2.2.1, bt1240.2.2.2.1, bt1240.2.2.2.2)))
theorem laws_toDesk.mono : ∀ a0 a1 a2 a3 a4 a5 a6 a7 a8 a9 a10 k, LeO (laws_toDesk.f k a0 a1 a2 a3 a4 a5 a6 a7 a8 a9 a10) (laws_toDesk.f (k + 1) a0 a1 a2 a3 a4 a5 a6 a7 a8 a9 a10) := by
 intro a0 a1 a2 a3 a4 a5 a6 a7 a8 a9 a10 k
 unfold laws_toDesk.f
 repeat' first
   | (with_reducible exact laws_toFeed.mono _ _ _ _ _ _)
   | (with_reducible exact LeO.refl _)
   | (with_reducible exact LeO.none _)
   | (with_reducible refine LeO.ite ?_ ?_)
   | (with_reducible refine LeO.bind ?_ (fun _ => ?_))
   | exact laws_toFeed.mono _ _ _ _ _ _
   | exact LeO.none _
   | refine LeO.ite ?_ ?_
   | refine LeO.bind ?_ (fun _ => ?_)
set_option maxHeartbeats 8000000 in
set_option maxRecDepth 100000 in
theorem laws_toDesk.calls (k : Nat) (a0_0 : Int) (a0_1 : Int) (a0_2 : Int) (a0_3 : Int) (A0_4 : Option Addr) (c0_4 : Nat) (l0_4 : List (List Int)) (a0_5 : Int) (A0_6 : Option Addr) (c0_6 : Nat) (l0_6 : List Int) (a0_7 : Int) (a0_8 : Bool) (a0_9 : Int) (a0_10 : Int) (r1 : Int) (r2 : Int) (r3 : Int) (r4 : Int) (r5 : List (List Int)) (r6 : Int) (r7 : List Int) (r8 : Int) (r9 : Bool) (r10 : Int) (r11 : Int) (w : World) (hr0_4 : Kd.C (Kd.slice 3 (Kd.int .i64)) w A0_4 l0_4.length l0_4) (hc0_4 : l0_4.length ≤ c0_4) (hr0_6 : Kd.C (Kd.int .u8) w A0_6 l0_6.length l0_6) (hc0_6 : l0_6.length ≤ c0_6) (h : laws_toDesk.f k a0_0 a0_1 a0_2 a0_3 l0_4 a0_5 l0_6 a0_7 a0_8 a0_9 a0_10 = some (r1, r2, r3, r4, r5, r6, r7, r8, r9, r10, r11)) :
  Calls Try.prog 43 #[.agg #[.int .i64 a0_0, .int .i64 a0_1, .int .i64 a0_2, .int .i64 a0_3, .slice A0_4 l0_4.length c0_4, .int .i64 a0_5, .slice A0_6 l0_6.length c0_6, .int .i64 a0_7, .bool a0_8, .int .i64 a0_9, .int .i64 a0_10]] w fun e w' => ∃ v4_ v6_ : Value, e = .returned (.agg #[.int .i64 r1, .int .i64 r2, .int .i64 r3, .int .i64 r4, v4_, .int .i64 r6, v6_, .int .i64 r8, .bool r9, .int .i64 r10, .int .i64 r11]) ∧ Kd.S (Kd.slice 3 (Kd.int .i64)) 36 w' w.heap.size (fun _ => True) v4_ r5 ∧ Kd.R (Kd.int .u8) 5 w' w.heap.size (fun _ => True) v6_ r7 ∧ Below w.heap.size w w' := by
 have hu78 := Try.underlying78
 have hu86 := Try.underlying86
 have hu72 := Try.underlying72
 have hu81 := Try.underlying81
 have hu76 := Try.underlying76
 have hu84 := Try.underlying84
 have HR0_4 := zA hr0_4
 have HC0_4 := zA hc0_4
 clear hr0_4 hc0_4
 have HR0_6 := zA hr0_6
 have HC0_6 := zA hc0_6
 clear hr0_6 hc0_6
 have HB := zA (Below.refl w.heap.size w)
 have H : ((laws_toPicture.f a0_1 a0_2 a0_3 l0_4).bind fun bt1234 => ((laws_toFeed.f k l0_6 a0_7 a0_8 a0_9 a0_10).bind fun bt1240 => (some (a0_0, bt1234.1, bt1234.2.1, bt1234.2.2.1, bt1234.2.2.2, a0_5, bt1240.1, bt1240.2.1, bt1240.2.2.1, bt1240.2.2.2.1, bt1240.2.2.2.2)))) = some (r1, r2, r3, r4, r5, r6, r7, r8, r9, r10, r11) := h
 clear h
 replace H := Option.bind_eq_some_iff.mp H
 obtain ⟨⟨t1234, t1235, t1236, t1237⟩, A20, H⟩ := H
 replace H : ((laws_toFeed.f k l0_6 a0_7 a0_8 a0_9 a0_10).bind fun bt1240 => (some (a0_0, t1234, t1235, t1236, t1237, a0_5, bt1240.1, bt1240.2.1, bt1240.2.2.1, bt1240.2.2.2.1, bt1240.2.2.2.2))) = some (r1, r2, r3, r4, r5, r6, r7, r8, r9, r10, r11) := H
 have A2 := zA A20
 clear A20
 replace H := Option.bind_eq_some_iff.mp H
 obtain ⟨⟨t1240, t1243, t1244, t1245, t1246⟩, A30, H⟩ := H
 replace H : (some (a0_0, t1234, t1235, t1236, t1237, a0_5, t1240, t1243, t1244, t1245, t1246)) = some (r1, r2, r3, r4, r5, r6, r7, r8, r9, r10, r11) := H
 have A3 := zA A30
 clear A30
 simp only [Option.some.injEq, Prod.mk.injEq] at H
 obtain ⟨rfl, rfl, rfl, rfl, rfl, rfl, rfl, rfl, rfl, rfl, rfl⟩ := H
 go_enter Try.func43, Try.ntmps43
 go_wp2_with (first | ((with_reducible refine gate_dst (N := 1) rfl ?_); refine box_event ?hg (N := 1) ?hd (cs := #[.int .i64 a0_0, .int .i64 a0_1, .int .i64 a0_2, .int .i64 a0_3, .slice A0_4 l0_4.length c0_4, .int .i64 a0_5, .slice A0_6 l0_6.length c0_6, .int .i64 a0_7, .bool a0_8, .int .i64 a0_9, .int .i64 a0_10]) (t := 78) ?hr ?_; (case hd => rfl); (case hg => rfl); (case hr => first | (go_simp; done) | (go_simp; rfl)); intro gb1231 hg w4 hbox hb; have n0_ := zA (below_step (by repeat (first | (with_reducible first | exact HB.out | apply zC | apply zB | apply zF) | exact HB.out)) hb); have n1_ := zA (hbox); have n2_ := zA ((by rw [hg]; exact (zL (by repeat (first | (with_reducible first | exact HB.out | apply zC | apply zB | apply zF) | exact HB.out))) : w.heap.size ≤ gb1231)); have n3_ := zA ((by rw [hg]; exact (zL (by repeat (first | (with_reducible first | exact HB.out | apply zC | apply zB | apply zF) | exact HB.out))) : w.heap.size ≤ gb1231)); clear HB; have HB := n0_; have BK1231 := n1_; have GW1231 := n2_; have GE1231 := n3_; clear n0_ n1_ n2_ n3_; clear hb hbox hg) | ((with_reducible refine gate_dst (N := 2) rfl ?_); refine box_event ?hg (N := 2) ?hd (cs := #[.int .i64 0, .int .i64 0, .int .i64 0, .int .i64 0, .slice none 0 0, .int .i64 0, .slice none 0 0, .int .i64 0, .bool false, .int .i64 0, .int .i64 0]) (t := 86) ?hr ?_; (case hd => rfl); (case hg => rfl); (case hr => first | (go_simp; done) | (go_simp; rfl)); intro gb1232 hg w5 hbox hb; have n0_ := zA (blk_below (g := gb1231) (o := .cells #[.int .i64 a0_0, .int .i64 a0_1, .int .i64 a0_2, .int .i64 a0_3, .slice A0_4 l0_4.length c0_4, .int .i64 a0_5, .slice A0_6 l0_6.length c0_6, .int .i64 a0_7, .bool a0_8, .int .i64 a0_9, .int .i64 a0_10] 78 (0, 0)) (by (with_reducible repeat (first | refine zG ?_ _ | refine zH ?_ | refine zD ?_ _)); exact BK1231.out) hb); have n1_ := zA (below_step (by repeat (first | (with_reducible first | exact HB.out | apply zC | apply zB | apply zF | refine zE ?_ GE1231.out) | exact HB.out)) hb); have n2_ := zA (hbox); have n3_ := zA ((by rw [hg]; exact (zL (by repeat (first | (with_reducible first | exact HB.out | apply zC | apply zB | apply zF | refine zE ?_ GE1231.out) | exact HB.out))) : w.heap.size ≤ gb1232)); have n4_ := zA ((by rw [hg]; exact (zL (by repeat (first | (with_reducible first | exact HB.out | apply zC | apply zB | apply zF | refine zE ?_ GE1231.out) | exact HB.out))) : w.heap.size ≤ gb1232)); have n5_ := zA ((by rw [hg]; exact Nat.ne_of_lt (blk_lt (g := gb1231) (o := .cells #[.int .i64 a0_0, .int .i64 a0_1, .int .i64 a0_2, .int .i64 a0_3, .slice A0_4 l0_4.length c0_4, .int .i64 a0_5, .slice A0_6 l0_6.length c0_6, .int .i64 a0_7, .bool a0_8, .int .i64 a0_9, .int .i64 a0_10] 78 (0, 0)) (by (with_reducible repeat (first | refine zG ?_ _ | refine zH ?_ | refine zD ?_ _)); exact BK1231.out)) : gb1231 ≠ gb1232)); have n6_ := zA ((by rw [hg]; exact Nat.ne_of_gt (blk_lt (g := gb1231) (o := .cells #[.int .i64 a0_0, .int .i64 a0_1, .int .i64 a0_2, .int .i64 a0_3, .slice A0_4 l0_4.length c0_4, .int .i64 a0_5, .slice A0_6 l0_6.length c0_6, .int .i64 a0_7, .bool a0_8, .int .i64 a0_9, .int .i64 a0_10] 78 (0, 0)) (by (with_reducible repeat (first | refine zG ?_ _ | refine zH ?_ | refine zD ?_ _)); exact BK1231.out)) : gb1232 ≠ gb1231)); clear BK1231; clear HB; have BK1231 := n0_; have HB := n1_; have BK1232 := n2_; have GW1232 := n3_; have GE1232 := n4_; have NB1231_1232 := n5_; have NB1232_1231 := n6_; clear n0_ n1_ n2_ n3_ n4_ n5_ n6_; clear hb hbox hg) | ((with_reducible refine gate_dst (N := 3) rfl ?_); refine box_event ?hg (N := 3) ?hd (cs := #[.int .i64 0, .int .i64 0, .int .i64 0, .int .i64 0, .slice none 0 0, .int .i64 0, .slice none 0 0, .int .i64 0, .bool false, .int .i64 0, .int .i64 0]) (t := 86) ?hr ?_; (case hd => rfl); (case hg => rfl); (case hr => first | (go_simp; done) | (go_simp; rfl)); intro gb1233 hg w6 hbox hb; have n0_ := zA (blk_below (g := gb1231) (o := .cells #[.int .i64 a0_0, .int .i64 a0_1, .int .i64 a0_2, .int .i64 a0_3, .slice A0_4 l0_4.length c0_4, .int .i64 a0_5, .slice A0_6 l0_6.length c0_6, .int .i64 a0_7, .bool a0_8, .int .i64 a0_9, .int .i64 a0_10] 78 (0, 0)) (by (with_reducible repeat (first | refine zG ?_ _ | refine zH ?_ | refine zD ?_ _)); exact BK1231.out) hb); have n1_ := zA (blk_below (g := gb1232) (o := .cells #[.int .i64 0, .int .i64 0, .int .i64 0, .int .i64 0, .slice none 0 0, .int .i64 0, .slice none 0 0, .int .i64 0, .bool false, .int .i64 0, .int .i64 0] 86 (0, 0)) (by (with_reducible repeat (first | refine zG ?_ _ | refine zH ?_ | refine zD ?_ _)); exact BK1232.out) hb); have n2_ := zA (below_step (by repeat (first | (with_reducible first | exact HB.out | apply zC | apply zB | apply zF | refine zE ?_ GE1231.out | refine zE ?_ GE1232.out) | exact HB.out)) hb); have n3_ := zA (hbox); have n4_ := zA ((by rw [hg]; exact (zL (by repeat (first | (with_reducible first | exact HB.out | apply zC | apply zB | apply zF | refine zE ?_ GE1231.out | refine zE ?_ GE1232.out) | exact HB.out))) : w.heap.size ≤ gb1233)); have n5_ := zA ((by rw [hg]; exact (zL (by repeat (first | (with_reducible first | exact HB.out | apply zC | apply zB | apply zF | refine zE ?_ GE1231.out | refine zE ?_ GE1232.out) | exact HB.out))) : w.heap.size ≤ gb1233)); have n6_ := zA ((by rw [hg]; exact Nat.ne_of_lt (blk_lt (g := gb1231) (o := .cells #[.int .i64 a0_0, .int .i64 a0_1, .int .i64 a0_2, .int .i64 a0_3, .slice A0_4 l0_4.length c0_4, .int .i64 a0_5, .slice A0_6 l0_6.length c0_6, .int .i64 a0_7, .bool a0_8, .int .i64 a0_9, .int .i64 a0_10] 78 (0, 0)) (by (with_reducible repeat (first | refine zG ?_ _ | refine zH ?_ | refine zD ?_ _)); exact BK1231.out)) : gb1231 ≠ gb1233)); have n7_ := zA ((by rw [hg]; exact Nat.ne_of_gt (blk_lt (g := gb1231) (o := .cells #[.int .i64 a0_0, .int .i64 a0_1, .int .i64 a0_2, .int .i64 a0_3, .slice A0_4 l0_4.length c0_4, .int .i64 a0_5, .slice A0_6 l0_6.length c0_6, .int .i64 a0_7, .bool a0_8, .int .i64 a0_9, .int .i64 a0_10] 78 (0, 0)) (by (with_reducible repeat (first | refine zG ?_ _ | refine zH ?_ | refine zD ?_ _)); exact BK1231.out)) : gb1233 ≠ gb1231)); have n8_ := zA ((by rw [hg]; exact Nat.ne_of_lt (blk_lt (g := gb1232) (o := .cells #[.int .i64 0, .int .i64 0, .int .i64 0, .int .i64 0, .slice none 0 0, .int .i64 0, .slice none 0 0, .int .i64 0, .bool false, .int .i64 0, .int .i64 0] 86 (0, 0)) (by (with_reducible repeat (first | refine zG ?_ _ | refine zH ?_ | refine zD ?_ _)); exact BK1232.out)) : gb1232 ≠ gb1233)); have n9_ := zA ((by rw [hg]; exact Nat.ne_of_gt (blk_lt (g := gb1232) (o := .cells #[.int .i64 0, .int .i64 0, .int .i64 0, .int .i64 0, .slice none 0 0, .int .i64 0, .slice none 0 0, .int .i64 0, .bool false, .int .i64 0, .int .i64 0] 86 (0, 0)) (by (with_reducible repeat (first | refine zG ?_ _ | refine zH ?_ | refine zD ?_ _)); exact BK1232.out)) : gb1233 ≠ gb1232)); clear BK1231; clear BK1232; clear HB; have BK1231 := n0_; have BK1232 := n1_; have HB := n2_; have BK1233 := n3_; have GW1233 := n4_; have GE1233 := n5_; have NB1231_1233 := n6_; have NB1233_1231 := n7_; have NB1232_1233 := n8_; have NB1233_1232 := n9_; clear n0_ n1_ n2_ n3_ n4_ n5_ n6_ n7_ n8_ n9_; clear hb hbox hg; have hnb7 := NB1231_1232.out; have hnc7 := NB1232_1231.out; have hnb8 := NB1231_1233.out; have hnc8 := NB1233_1231.out; have hcz9_0 : w6.cell? ⟨gb1231, 0, none⟩ = some (.int .i64 a0_0) := (zK BK1231.out 0).trans rfl; have hcz9_1 : w6.cell? ⟨gb1231, 1, none⟩ = some (.int .i64 a0_1) := (zK BK1231.out 1).trans rfl; have hcz9_2 : w6.cell? ⟨gb1231, 2, none⟩ = some (.int .i64 a0_2) := (zK BK1231.out 2).trans rfl; have hcz9_3 : w6.cell? ⟨gb1231, 3, none⟩ = some (.int .i64 a0_3) := (zK BK1231.out 3).trans rfl; have hcz9_4 : w6.cell? ⟨gb1231, 4, none⟩ = some (.slice A0_4 l0_4.length c0_4) := (zK BK1231.out 4).trans rfl; have hcz9_5 : w6.cell? ⟨gb1231, 5, none⟩ = some (.int .i64 a0_5) := (zK BK1231.out 5).trans rfl; have hcz9_6 : w6.cell? ⟨gb1231, 6, none⟩ = some (.slice A0_6 l0_6.length c0_6) := (zK BK1231.out 6).trans rfl; have hcz9_7 : w6.cell? ⟨gb1231, 7, none⟩ = some (.int .i64 a0_7) := (zK BK1231.out 7).trans rfl; have hcz9_8 : w6.cell? ⟨gb1231, 8, none⟩ = some (.bool a0_8) := (zK BK1231.out 8).trans rfl; have hcz9_9 : w6.cell? ⟨gb1231, 9, none⟩ = some (.int .i64 a0_9) := (zK BK1231.out 9).trans rfl; have hcz9_10 : w6.cell? ⟨gb1231, 10, none⟩ = some (.int .i64 a0_10) := (zK BK1231.out 10).trans rfl; have hfz9_0 := zJ BK1231.out 0; have hfz9_1 := zJ BK1231.out 1; have hfz9_2 := zJ BK1231.out 2; have hfz9_3 := zJ BK1231.out 3; have hfz9_4 := zJ BK1231.out 4; have hfz9_5 := zJ BK1231.out 5; have hfz9_6 := zJ BK1231.out 6; have hfz9_7 := zJ BK1231.out 7; have hfz9_8 := zJ BK1231.out 8; have hfz9_9 := zJ BK1231.out 9; have hfz9_10 := zJ BK1231.out 10; have hnb10 := NB1233_1232.out; have hnc10 := NB1232_1233.out; have hcz11_0 : w6.cell? ⟨gb1233, 0, none⟩ = some (.int .i64 0) := (zK BK1233.out 0).trans rfl; have hcz11_1 : w6.cell? ⟨gb1233, 1, none⟩ = some (.int .i64 0) := (zK BK1233.out 1).trans rfl; have hcz11_2 : w6.cell? ⟨gb1233, 2, none⟩ = some (.int .i64 0) := (zK BK1233.out 2).trans rfl; have hcz11_3 : w6.cell? ⟨gb1233, 3, none⟩ = some (.int .i64 0) := (zK BK1233.out 3).trans rfl; have hcz11_4 : w6.cell? ⟨gb1233, 4, none⟩ = some (.slice none 0 0) := (zK BK1233.out 4).trans rfl; have hcz11_5 : w6.cell? ⟨gb1233, 5, none⟩ = some (.int .i64 0) := (zK BK1233.out 5).trans rfl; have hcz11_6 : w6.cell? ⟨gb1233, 6, none⟩ = some (.slice none 0 0) := (zK BK1233.out 6).trans rfl; have hcz11_7 : w6.cell? ⟨gb1233, 7, none⟩ = some (.int .i64 0) := (zK BK1233.out 7).trans rfl; have hcz11_8 : w6.cell? ⟨gb1233, 8, none⟩ = some (.bool false) := (zK BK1233.out 8).trans rfl; have hcz11_9 : w6.cell? ⟨gb1233, 9, none⟩ = some (.int .i64 0) := (zK BK1233.out 9).trans rfl; have hcz11_10 : w6.cell? ⟨gb1233, 10, none⟩ = some (.int .i64 0) := (zK BK1233.out 10).trans rfl; have hfz11_0 := zJ BK1233.out 0; have hfz11_1 := zJ BK1233.out 1; have hfz11_2 := zJ BK1233.out 2; have hfz11_3 := zJ BK1233.out 3; have hfz11_4 := zJ BK1233.out 4; have hfz11_5 := zJ BK1233.out 5; have hfz11_6 := zJ BK1233.out 6; have hfz11_7 := zJ BK1233.out 7; have hfz11_8 := zJ BK1233.out 8; have hfz11_9 := zJ BK1233.out 9; have hfz11_10 := zJ BK1233.out 10) | ((with_reducible refine gate_callee (f := 95) rfl ?_); refine goesL_ (some 9) rfl rfl Try.func95 (by kernel_rfl) rfl #[.agg #[.int .i64 a0_1, .int .i64 a0_2, .int .i64 a0_3, .slice A0_4 l0_4.length c0_4]] rfl (by (try simp only [zU, zV, zW]); first | done | rfl | (simp only [zR, zQ]; rfl)) ?_; (with_reducible refine (laws_toPicture.calls a0_1 a0_2 a0_3 _ _ l0_4 t1234 t1235 t1236 t1237 _ ?side1 ?side2 A2.out).mono ?_); (case side1 => exact Kd.C_below HR0_4.out (by repeat (first | (with_reducible first | exact HB.out | apply zC | apply zB | apply zF | refine zE ?_ GE1231.out | refine zE ?_ GE1232.out | refine zE ?_ GE1233.out) | exact HB.out))); (case side2 => exact HC0_4.out); rintro e w12 ⟨v1238, rfl, ho0, hb⟩; refine ⟨_, rfl, ?_⟩; have n0_ := zA (Kd.S_lower ho0 (zL (by repeat (first | (with_reducible first | exact HB.out | apply zC | apply zB | apply zF | refine zE ?_ GE1231.out | refine zE ?_ GE1232.out | refine zE ?_ GE1233.out) | exact HB.out)))); have n1_ := zA (blk_below (g := gb1231) (o := .cells #[.int .i64 a0_0, .int .i64 a0_1, .int .i64 a0_2, .int .i64 a0_3, .slice A0_4 l0_4.length c0_4, .int .i64 a0_5, .slice A0_6 l0_6.length c0_6, .int .i64 a0_7, .bool a0_8, .int .i64 a0_9, .int .i64 a0_10] 78 (0, 0)) (by (with_reducible repeat (first | refine zG ?_ _ | refine zH ?_ | refine zD ?_ _)); refine blk_far ?_ NB1231_1233.out _; (with_reducible repeat (first | refine zG ?_ _ | refine zH ?_ | refine zD ?_ _)); exact BK1231.out) hb); have n2_ := zA (blk_below (g := gb1232) (o := .cells #[.int .i64 0, .int .i64 0, .int .i64 0, .int .i64 0, .slice none 0 0, .int .i64 0, .slice none 0 0, .int .i64 0, .bool false, .int .i64 0, .int .i64 0] 86 (0, 0)) (by (with_reducible repeat (first | refine zG ?_ _ | refine zH ?_ | refine zD ?_ _)); refine blk_far ?_ NB1232_1233.out _; (with_reducible repeat (first | refine zG ?_ _ | refine zH ?_ | refine zD ?_ _)); exact BK1232.out) hb); have n3_ := zA (blk_below (g := gb1233) (o := .cells #[.int .i64 a0_0, .int .i64 0, .int .i64 0, .int .i64 0, .slice none 0 0, .int .i64 0, .slice none 0 0, .int .i64 0, .bool false, .int .i64 0, .int .i64 0] 86 (0, 0)) (by (with_reducible repeat (first | refine zG ?_ _ | refine zH ?_ | refine zD ?_ _)); refine blk_put (cs := #[.int .i64 0, .int .i64 0, .int .i64 0, .int .i64 0, .slice none 0 0, .int .i64 0, .slice none 0 0, .int .i64 0, .bool false, .int .i64 0, .int .i64 0]) ?_ 0 _ rfl; (with_reducible repeat (first | refine zG ?_ _ | refine zH ?_ | refine zD ?_ _)); exact BK1233.out) hb); have n4_ := zA (below_step (by repeat (first | (with_reducible first | exact HB.out | apply zC | apply zB | apply zF | refine zE ?_ GE1231.out | refine zE ?_ GE1232.out | refine zE ?_ GE1233.out) | exact HB.out)) hb); clear BK1231; clear BK1232; clear BK1233; clear HB; have HO1239 := n0_; have BK1231 := n1_; have BK1232 := n2_; have BK1233 := n3_; have HB := n4_; clear n0_ n1_ n2_ n3_ n4_; (try clear hb); (try clear hb2); (try clear hk); (try clear hi); (try clear ho0); have hcz13_0 : w12.cell? ⟨gb1233, 0, none⟩ = some (.int .i64 a0_0) := (zK BK1233.out 0).trans rfl; have hcz13_1 : w12.cell? ⟨gb1233, 1, none⟩ = some (.int .i64 0) := (zK BK1233.out 1).trans rfl; have hcz13_2 : w12.cell? ⟨gb1233, 2, none⟩ = some (.int .i64 0) := (zK BK1233.out 2).trans rfl; have hcz13_3 : w12.cell? ⟨gb1233, 3, none⟩ = some (.int .i64 0) := (zK BK1233.out 3).trans rfl; have hcz13_4 : w12.cell? ⟨gb1233, 4, none⟩ = some (.slice none 0 0) := (zK BK1233.out 4).trans rfl; have hcz13_5 : w12.cell? ⟨gb1233, 5, none⟩ = some (.int .i64 0) := (zK BK1233.out 5).trans rfl; have hcz13_6 : w12.cell? ⟨gb1233, 6, none⟩ = some (.slice none 0 0) := (zK BK1233.out 6).trans rfl; have hcz13_7 : w12.cell? ⟨gb1233, 7, none⟩ = some (.int .i64 0) := (zK BK1233.out 7).trans rfl; have hcz13_8 : w12.cell? ⟨gb1233, 8, none⟩ = some (.bool false) := (zK BK1233.out 8).trans rfl; have hcz13_9 : w12.cell? ⟨gb1233, 9, none⟩ = some (.int .i64 0) := (zK BK1233.out 9).trans rfl; have hcz13_10 : w12.cell? ⟨gb1233, 10, none⟩ = some (.int .i64 0) := (zK BK1233.out 10).trans rfl; have hfz13_0 := zJ BK1233.out 0; have hfz13_1 := zJ BK1233.out 1; have hfz13_2 := zJ BK1233.out 2; have hfz13_3 := zJ BK1233.out 3; have hfz13_4 := zJ BK1233.out 4; have hfz13_5 := zJ BK1233.out 5; have hfz13_6 := zJ BK1233.out 6; have hfz13_7 := zJ BK1233.out 7; have hfz13_8 := zJ BK1233.out 8; have hfz13_9 := zJ BK1233.out 9; have hfz13_10 := zJ BK1233.out 10; obtain ⟨Ao14, co14, eo14⟩ := Kd.S_slice HO1239.out; subst eo14; have hcz15_0 : w12.cell? ⟨gb1231, 0, none⟩ = some (.int .i64 a0_0) := (zK BK1231.out 0).trans rfl; have hcz15_1 : w12.cell? ⟨gb1231, 1, none⟩ = some (.int .i64 a0_1) := (zK BK1231.out 1).trans rfl; have hcz15_2 : w12.cell? ⟨gb1231, 2, none⟩ = some (.int .i64 a0_2) := (zK BK1231.out 2).trans rfl; have hcz15_3 : w12.cell? ⟨gb1231, 3, none⟩ = some (.int .i64 a0_3) := (zK BK1231.out 3).trans rfl; have hcz15_4 : w12.cell? ⟨gb1231, 4, none⟩ = some (.slice A0_4 l0_4.length c0_4) := (zK BK1231.out 4).trans rfl; have hcz15_5 : w12.cell? ⟨gb1231, 5, none⟩ = some (.int .i64 a0_5) := (zK BK1231.out 5).trans rfl; have hcz15_6 : w12.cell? ⟨gb1231, 6, none⟩ = some (.slice A0_6 l0_6.length c0_6) := (zK BK1231.out 6).trans rfl; have hcz15_7 : w12.cell? ⟨gb1231, 7, none⟩ = some (.int .i64 a0_7) := (zK BK1231.out 7).trans rfl; have hcz15_8 : w12.cell? ⟨gb1231, 8, none⟩ = some (.bool a0_8) := (zK BK1231.out 8).trans rfl; have hcz15_9 : w12.cell? ⟨gb1231, 9, none⟩ = some (.int .i64 a0_9) := (zK BK1231.out 9).trans rfl; have hcz15_10 : w12.cell? ⟨gb1231, 10, none⟩ = some (.int .i64 a0_10) := (zK BK1231.out 10).trans rfl; have hfz15_0 := zJ BK1231.out 0; have hfz15_1 := zJ BK1231.out 1; have hfz15_2 := zJ BK1231.out 2; have hfz15_3 := zJ BK1231.out 3; have hfz15_4 := zJ BK1231.out 4; have hfz15_5 := zJ BK1231.out 5; have hfz15_6 := zJ BK1231.out 6; have hfz15_7 := zJ BK1231.out 7; have hfz15_8 := zJ BK1231.out 8; have hfz15_9 := zJ BK1231.out 9; have hfz15_10 := zJ BK1231.out 10) | ((with_reducible refine gate_callee (f := 96) rfl ?_); refine goesL_ (some 16) rfl rfl Try.func96 (by kernel_rfl) rfl #[.agg #[.slice A0_6 l0_6.length c0_6, .int .i64 a0_7, .bool a0_8, .int .i64 a0_9, .int .i64 a0_10]] rfl (by (try simp only [zU, zV, zW]); first | done | rfl | (simp only [zR, zQ]; rfl)) ?_; (with_reducible refine (laws_toFeed.calls k _ _ l0_6 a0_7 a0_8 a0_9 a0_10 t1240 t1243 t1244 t1245 t1246 _ ?side1 ?side2 A3.out).mono ?_); (case side1 => exact Kd.C_below HR0_6.out (by repeat (first | (with_reducible first | exact HB.out | apply zC | apply zB | apply zF | refine zE ?_ GE1231.out | refine zE ?_ GE1232.out | refine zE ?_ GE1233.out) | exact HB.out))); (case side2 => exact HC0_6.out); rintro e w16 ⟨v1241, rfl, ho0, hb⟩; refine ⟨_, rfl, ?_⟩; have n0_ := zA (Kd.S_below (by (with_reducible repeat (first | apply zY | apply zZ | apply yA)); exact (yB (yC (p := ⟨gb1233, 5, none⟩) (yC (p := ⟨gb1233, 4, none⟩) (yC (p := ⟨gb1233, 3, none⟩) (yC (p := ⟨gb1233, 2, none⟩) (yC (p := ⟨gb1233, 1, none⟩) (Kd.S_types HO1239.out BK1233.out (by decide)) (fun _ hk => hk.2) (.int .i64 t1234)) (fun _ hk => hk.2) (.int .i64 t1235)) (fun _ hk => hk.2) (.int .i64 t1236)) (fun _ hk => hk.2) (.slice Ao14 t1237.length co14)) (fun _ hk => hk.2) (.int .i64 a0_5)) (fun _ h_ => h_.1))) hb); have n1_ := zA (Kd.R_lower ho0 (zL (by repeat (first | (with_reducible first | exact HB.out | apply zC | apply zB | apply zF | refine zE ?_ GE1231.out | refine zE ?_ GE1232.out | refine zE ?_ GE1233.out) | exact HB.out)))); have n2_ := zA (blk_below (g := gb1231) (o := .cells #[.int .i64 a0_0, .int .i64 a0_1, .int .i64 a0_2, .int .i64 a0_3, .slice A0_4 l0_4.length c0_4, .int .i64 a0_5, .slice A0_6 l0_6.length c0_6, .int .i64 a0_7, .bool a0_8, .int .i64 a0_9, .int .i64 a0_10] 78 (0, 0)) (by (with_reducible repeat (first | refine zG ?_ _ | refine zH ?_ | refine zD ?_ _)); refine blk_far ?_ NB1231_1233.out _; (with_reducible repeat (first | refine zG ?_ _ | refine zH ?_ | refine zD ?_ _)); refine blk_far ?_ NB1231_1233.out _; (with_reducible repeat (first | refine zG ?_ _ | refine zH ?_ | refine zD ?_ _)); refine blk_far ?_ NB1231_1233.out _; (with_reducible repeat (first | refine zG ?_ _ | refine zH ?_ | refine zD ?_ _)); refine blk_far ?_ NB1231_1233.out _; (with_reducible repeat (first | refine zG ?_ _ | refine zH ?_ | refine zD ?_ _)); refine blk_far ?_ NB1231_1233.out _; (with_reducible repeat (first | refine zG ?_ _ | refine zH ?_ | refine zD ?_ _)); exact BK1231.out) hb); have n3_ := zA (blk_below (g := gb1232) (o := .cells #[.int .i64 0, .int .i64 0, .int .i64 0, .int .i64 0, .slice none 0 0, .int .i64 0, .slice none 0 0, .int .i64 0, .bool false, .int .i64 0, .int .i64 0] 86 (0, 0)) (by (with_reducible repeat (first | refine zG ?_ _ | refine zH ?_ | refine zD ?_ _)); refine blk_far ?_ NB1232_1233.out _; (with_reducible repeat (first | refine zG ?_ _ | refine zH ?_ | refine zD ?_ _)); refine blk_far ?_ NB1232_1233.out _; (with_reducible repeat (first | refine zG ?_ _ | refine zH ?_ | refine zD ?_ _)); refine blk_far ?_ NB1232_1233.out _; (with_reducible repeat (first | refine zG ?_ _ | refine zH ?_ | refine zD ?_ _)); refine blk_far ?_ NB1232_1233.out _; (with_reducible repeat (first | refine zG ?_ _ | refine zH ?_ | refine zD ?_ _)); refine blk_far ?_ NB1232_1233.out _; (with_reducible repeat (first | refine zG ?_ _ | refine zH ?_ | refine zD ?_ _)); exact BK1232.out) hb); have n4_ := zA (blk_below (g := gb1233) (o := .cells #[.int .i64 a0_0, .int .i64 t1234, .int .i64 t1235, .int .i64 t1236, .slice Ao14 t1237.length co14, .int .i64 a0_5, .slice none 0 0, .int .i64 0, .bool false, .int .i64 0, .int .i64 0] 86 (0, 0)) (by (with_reducible repeat (first | refine zG ?_ _ | refine zH ?_ | refine zD ?_ _)); refine blk_put (cs := #[.int .i64 a0_0, .int .i64 t1234, .int .i64 t1235, .int .i64 t1236, .slice Ao14 t1237.length co14, .int .i64 0, .slice none 0 0, .int .i64 0, .bool false, .int .i64 0, .int .i64 0]) ?_ 5 _ rfl; (with_reducible repeat (first | refine zG ?_ _ | refine zH ?_ | refine zD ?_ _)); refine blk_put (cs := #[.int .i64 a0_0, .int .i64 t1234, .int .i64 t1235, .int .i64 t1236, .slice none 0 0, .int .i64 0, .slice none 0 0, .int .i64 0, .bool false, .int .i64 0, .int .i64 0]) ?_ 4 _ rfl; (with_reducible repeat (first | refine zG ?_ _ | refine zH ?_ | refine zD ?_ _)); refine blk_put (cs := #[.int .i64 a0_0, .int .i64 t1234, .int .i64 t1235, .int .i64 0, .slice none 0 0, .int .i64 0, .slice none 0 0, .int .i64 0, .bool false, .int .i64 0, .int .i64 0]) ?_ 3 _ rfl; (with_reducible repeat (first | refine zG ?_ _ | refine zH ?_ | refine zD ?_ _)); refine blk_put (cs := #[.int .i64 a0_0, .int .i64 t1234, .int .i64 0, .int .i64 0, .slice none 0 0, .int .i64 0, .slice none 0 0, .int .i64 0, .bool false, .int .i64 0, .int .i64 0]) ?_ 2 _ rfl; (with_reducible repeat (first | refine zG ?_ _ | refine zH ?_ | refine zD ?_ _)); refine blk_put (cs := #[.int .i64 a0_0, .int .i64 0, .int .i64 0, .int .i64 0, .slice none 0 0, .int .i64 0, .slice none 0 0, .int .i64 0, .bool false, .int .i64 0, .int .i64 0]) ?_ 1 _ rfl; (with_reducible repeat (first | refine zG ?_ _ | refine zH ?_ | refine zD ?_ _)); exact BK1233.out) hb); have n5_ := zA (below_step (by repeat (first | (with_reducible first | exact HB.out | apply zC | apply zB | apply zF | refine zE ?_ GE1231.out | refine zE ?_ GE1232.out | refine zE ?_ GE1233.out) | exact HB.out)) hb); clear HO1239; clear BK1231; clear BK1232; clear BK1233; clear HB; have HO1239 := n0_; have HO1242 := n1_; have BK1231 := n2_; have BK1232 := n3_; have BK1233 := n4_; have HB := n5_; clear n0_ n1_ n2_ n3_ n4_ n5_; (try clear hb); (try clear hb2); (try clear hk); (try clear hi); (try clear ho0); obtain ⟨Ao17, co17, eo17⟩ := Kd.R_slice HO1242.out; subst eo17; have hcz18_0 : w16.cell? ⟨gb1233, 0, none⟩ = some (.int .i64 a0_0) := (zK BK1233.out 0).trans rfl; have hcz18_1 : w16.cell? ⟨gb1233, 1, none⟩ = some (.int .i64 t1234) := (zK BK1233.out 1).trans rfl; have hcz18_2 : w16.cell? ⟨gb1233, 2, none⟩ = some (.int .i64 t1235) := (zK BK1233.out 2).trans rfl; have hcz18_3 : w16.cell? ⟨gb1233, 3, none⟩ = some (.int .i64 t1236) := (zK BK1233.out 3).trans rfl; have hcz18_4 : w16.cell? ⟨gb1233, 4, none⟩ = some (.slice Ao14 t1237.length co14) := (zK BK1233.out 4).trans rfl; have hcz18_5 : w16.cell? ⟨gb1233, 5, none⟩ = some (.int .i64 a0_5) := (zK BK1233.out 5).trans rfl; have hcz18_6 : w16.cell? ⟨gb1233, 6, none⟩ = some (.slice none 0 0) := (zK BK1233.out 6).trans rfl; have hcz18_7 : w16.cell? ⟨gb1233, 7, none⟩ = some (.int .i64 0) := (zK BK1233.out 7).trans rfl; have hcz18_8 : w16.cell? ⟨gb1233, 8, none⟩ = some (.bool false) := (zK BK1233.out 8).trans rfl; have hcz18_9 : w16.cell? ⟨gb1233, 9, none⟩ = some (.int .i64 0) := (zK BK1233.out 9).trans rfl; have hcz18_10 : w16.cell? ⟨gb1233, 10, none⟩ = some (.int .i64 0) := (zK BK1233.out 10).trans rfl; have hfz18_0 := zJ BK1233.out 0; have hfz18_1 := zJ BK1233.out 1; have hfz18_2 := zJ BK1233.out 2; have hfz18_3 := zJ BK1233.out 3; have hfz18_4 := zJ BK1233.out 4; have hfz18_5 := zJ BK1233.out 5; have hfz18_6 := zJ BK1233.out 6; have hfz18_7 := zJ BK1233.out 7; have hfz18_8 := zJ BK1233.out 8; have hfz18_9 := zJ BK1233.out 9; have hfz18_10 := zJ BK1233.out 10; have hcz19_0 : w16.cell? ⟨gb1232, 0, none⟩ = some (.int .i64 0) := (zK BK1232.out 0).trans rfl; have hcz19_1 : w16.cell? ⟨gb1232, 1, none⟩ = some (.int .i64 0) := (zK BK1232.out 1).trans rfl; have hcz19_2 : w16.cell? ⟨gb1232, 2, none⟩ = some (.int .i64 0) := (zK BK1232.out 2).trans rfl; have hcz19_3 : w16.cell? ⟨gb1232, 3, none⟩ = some (.int .i64 0) := (zK BK1232.out 3).trans rfl; have hcz19_4 : w16.cell? ⟨gb1232, 4, none⟩ = some (.slice none 0 0) := (zK BK1232.out 4).trans rfl; have hcz19_5 : w16.cell? ⟨gb1232, 5, none⟩ = some (.int .i64 0) := (zK BK1232.out 5).trans rfl; have hcz19_6 : w16.cell? ⟨gb1232, 6, none⟩ = some (.slice none 0 0) := (zK BK1232.out 6).trans rfl; have hcz19_7 : w16.cell? ⟨gb1232, 7, none⟩ = some (.int .i64 0) := (zK BK1232.out 7).trans rfl; have hcz19_8 : w16.cell? ⟨gb1232, 8, none⟩ = some (.bool false) := (zK BK1232.out 8).trans rfl; have hcz19_9 : w16.cell? ⟨gb1232, 9, none⟩ = some (.int .i64 0) := (zK BK1232.out 9).trans rfl; have hcz19_10 : w16.cell? ⟨gb1232, 10, none⟩ = some (.int .i64 0) := (zK BK1232.out 10).trans rfl; have hfz19_0 := zJ BK1232.out 0; have hfz19_1 := zJ BK1232.out 1; have hfz19_2 := zJ BK1232.out 2; have hfz19_3 := zJ BK1232.out 3; have hfz19_4 := zJ BK1232.out 4; have hfz19_5 := zJ BK1232.out 5; have hfz19_6 := zJ BK1232.out 6; have hfz19_7 := zJ BK1232.out 7; have hfz19_8 := zJ BK1232.out 8; have hfz19_9 := zJ BK1232.out 9; have hfz19_10 := zJ BK1232.out 10))
 refine bodyPost_ret (results_cell_row rfl _ _ gb1232 86 #[.int .i64 a0_0, .int .i64 t1234, .int .i64 t1235, .int .i64 t1236, .slice Ao14 t1237.length co14, .int .i64 a0_5, .slice Ao17 t1240.length co17, .int .i64 t1243, .bool t1244, .int .i64 t1245, .int .i64 t1246] (0, 0) _ rfl (by (with_reducible repeat (first | refine zG ?_ _ | refine zH ?_ | refine zD ?_ _)); refine blk_put (cs := #[.int .i64 a0_0, .int .i64 t1234, .int .i64 t1235, .int .i64 t1236, .slice Ao14 t1237.length co14, .int .i64 a0_5, .slice Ao17 t1240.length co17, .int .i64 t1243, .bool t1244, .int .i64 t1245, .int .i64 0]) ?_ 10 _ rfl; (with_reducible repeat (first | refine zG ?_ _ | refine zH ?_ | refine zD ?_ _)); refine blk_put (cs := #[.int .i64 a0_0, .int .i64 t1234, .int .i64 t1235, .int .i64 t1236, .slice Ao14 t1237.length co14, .int .i64 a0_5, .slice Ao17 t1240.length co17, .int .i64 t1243, .bool t1244, .int .i64 0, .int .i64 0]) ?_ 9 _ rfl; (with_reducible repeat (first | refine zG ?_ _ | refine zH ?_ | refine zD ?_ _)); refine blk_put (cs := #[.int .i64 a0_0, .int .i64 t1234, .int .i64 t1235, .int .i64 t1236, .slice Ao14 t1237.length co14, .int .i64 a0_5, .slice Ao17 t1240.length co17, .int .i64 t1243, .bool false, .int .i64 0, .int .i64 0]) ?_ 8 _ rfl; (with_reducible repeat (first | refine zG ?_ _ | refine zH ?_ | refine zD ?_ _)); refine blk_put (cs := #[.int .i64 a0_0, .int .i64 t1234, .int .i64 t1235, .int .i64 t1236, .slice Ao14 t1237.length co14, .int .i64 a0_5, .slice Ao17 t1240.length co17, .int .i64 0, .bool false, .int .i64 0, .int .i64 0]) ?_ 7 _ rfl; (with_reducible repeat (first | refine zG ?_ _ | refine zH ?_ | refine zD ?_ _)); refine blk_put (cs := #[.int .i64 a0_0, .int .i64 t1234, .int .i64 t1235, .int .i64 t1236, .slice Ao14 t1237.length co14, .int .i64 a0_5, .slice none 0 0, .int .i64 0, .bool false, .int .i64 0, .int .i64 0]) ?_ 6 _ rfl; (with_reducible repeat (first | refine zG ?_ _ | refine zH ?_ | refine zD ?_ _)); refine blk_put (cs := #[.int .i64 a0_0, .int .i64 t1234, .int .i64 t1235, .int .i64 t1236, .slice Ao14 t1237.length co14, .int .i64 0, .slice none 0 0, .int .i64 0, .bool false, .int .i64 0, .int .i64 0]) ?_ 5 _ rfl; (with_reducible repeat (first | refine zG ?_ _ | refine zH ?_ | refine zD ?_ _)); refine blk_put (cs := #[.int .i64 a0_0, .int .i64 t1234, .int .i64 t1235, .int .i64 t1236, .slice none 0 0, .int .i64 0, .slice none 0 0, .int .i64 0, .bool false, .int .i64 0, .int .i64 0]) ?_ 4 _ rfl; (with_reducible repeat (first | refine zG ?_ _ | refine zH ?_ | refine zD ?_ _)); refine blk_put (cs := #[.int .i64 a0_0, .int .i64 t1234, .int .i64 t1235, .int .i64 0, .slice none 0 0, .int .i64 0, .slice none 0 0, .int .i64 0, .bool false, .int .i64 0, .int .i64 0]) ?_ 3 _ rfl; (with_reducible repeat (first | refine zG ?_ _ | refine zH ?_ | refine zD ?_ _)); refine blk_put (cs := #[.int .i64 a0_0, .int .i64 t1234, .int .i64 0, .int .i64 0, .slice none 0 0, .int .i64 0, .slice none 0 0, .int .i64 0, .bool false, .int .i64 0, .int .i64 0]) ?_ 2 _ rfl; (with_reducible repeat (first | refine zG ?_ _ | refine zH ?_ | refine zD ?_ _)); refine blk_put (cs := #[.int .i64 a0_0, .int .i64 0, .int .i64 0, .int .i64 0, .slice none 0 0, .int .i64 0, .slice none 0 0, .int .i64 0, .bool false, .int .i64 0, .int .i64 0]) ?_ 1 _ rfl; (with_reducible repeat (first | refine zG ?_ _ | refine zH ?_ | refine zD ?_ _)); refine blk_put (cs := #[.int .i64 0, .int .i64 0, .int .i64 0, .int .i64 0, .slice none 0 0, .int .i64 0, .slice none 0 0, .int .i64 0, .bool false, .int .i64 0, .int .i64 0]) ?_ 0 _ rfl; (with_reducible repeat (first | refine zG ?_ _ | refine zH ?_ | refine zD ?_ _)); refine blk_far ?_ NB1232_1233.out _; (with_reducible repeat (first | refine zG ?_ _ | refine zH ?_ | refine zD ?_ _)); refine blk_far ?_ NB1232_1233.out _; (with_reducible repeat (first | refine zG ?_ _ | refine zH ?_ | refine zD ?_ _)); refine blk_far ?_ NB1232_1233.out _; (with_reducible repeat (first | refine zG ?_ _ | refine zH ?_ | refine zD ?_ _)); refine blk_far ?_ NB1232_1233.out _; (with_reducible repeat (first | refine zG ?_ _ | refine zH ?_ | refine zD ?_ _)); refine blk_far ?_ NB1232_1233.out _; (with_reducible repeat (first | refine zG ?_ _ | refine zH ?_ | refine zD ?_ _)); exact BK1232.out) Try.underlying86 rfl (by kernel_rfl)) rfl ?_
 exact ⟨_, _, by first | rfl | (simp [errW_none, errW_some] <;> rfl) | (simp [*, errW_none, errW_some] <;> rfl), by (with_reducible repeat (first | apply zY | apply zZ | apply yA)); exact yB (yC (p := ⟨gb1232, 10, none⟩) (yC (p := ⟨gb1232, 9, none⟩) (yC (p := ⟨gb1232, 8, none⟩) (yC (p := ⟨gb1232, 7, none⟩) (yC (p := ⟨gb1232, 6, none⟩) (yC (p := ⟨gb1232, 5, none⟩) (yC (p := ⟨gb1232, 4, none⟩) (yC (p := ⟨gb1232, 3, none⟩) (yC (p := ⟨gb1232, 2, none⟩) (yC (p := ⟨gb1232, 1, none⟩) (yC (p := ⟨gb1232, 0, none⟩) (yC (p := ⟨gb1233, 10, none⟩) (yC (p := ⟨gb1233, 9, none⟩) (yC (p := ⟨gb1233, 8, none⟩) (yC (p := ⟨gb1233, 7, none⟩) (yC (p := ⟨gb1233, 6, none⟩) (Kd.S_types (Kd.S_types HO1239.out BK1233.out (by decide)) BK1232.out (by decide)) (fun _ hk => hk.1.2) (.slice Ao17 t1240.length co17)) (fun _ hk => hk.1.2) (.int .i64 t1243)) (fun _ hk => hk.1.2) (.bool t1244)) (fun _ hk => hk.1.2) (.int .i64 t1245)) (fun _ hk => hk.1.2) (.int .i64 t1246)) (fun _ hk => hk.2) (.int .i64 a0_0)) (fun _ hk => hk.2) (.int .i64 t1234)) (fun _ hk => hk.2) (.int .i64 t1235)) (fun _ hk => hk.2) (.int .i64 t1236)) (fun _ hk => hk.2) (.slice Ao14 t1237.length co14)) (fun _ hk => hk.2) (.int .i64 a0_5)) (fun _ hk => hk.2) (.slice Ao17 t1240.length co17)) (fun _ hk => hk.2) (.int .i64 t1243)) (fun _ hk => hk.2) (.bool t1244)) (fun _ hk => hk.2) (.int .i64 t1245)) (fun _ hk => hk.2) (.int .i64 t1246)) (fun _ hk => trivial), by (with_reducible repeat (first | apply zN | apply zM | apply zO)); exact zP (Kd.R_far (p := ⟨gb1232, 10, none⟩) (Kd.R_far (p := ⟨gb1232, 9, none⟩) (Kd.R_far (p := ⟨gb1232, 8, none⟩) (Kd.R_far (p := ⟨gb1232, 7, none⟩) (Kd.R_far (p := ⟨gb1232, 6, none⟩) (Kd.R_far (p := ⟨gb1232, 5, none⟩) (Kd.R_far (p := ⟨gb1232, 4, none⟩) (Kd.R_far (p := ⟨gb1232, 3, none⟩) (Kd.R_far (p := ⟨gb1232, 2, none⟩) (Kd.R_far (p := ⟨gb1232, 1, none⟩) (Kd.R_far (p := ⟨gb1232, 0, none⟩) (Kd.R_far (p := ⟨gb1233, 10, none⟩) (Kd.R_far (p := ⟨gb1233, 9, none⟩) (Kd.R_far (p := ⟨gb1233, 8, none⟩) (Kd.R_far (p := ⟨gb1233, 7, none⟩) (Kd.R_far (p := ⟨gb1233, 6, none⟩) (zX (zX HO1242.out BK1233.out (by decide)) BK1232.out (by decide)) (fun _ hk => hk.1.2) (.slice Ao17 t1240.length co17)) (fun _ hk => hk.1.2) (.int .i64 t1243)) (fun _ hk => hk.1.2) (.bool t1244)) (fun _ hk => hk.1.2) (.int .i64 t1245)) (fun _ hk => hk.1.2) (.int .i64 t1246)) (fun _ hk => hk.2) (.int .i64 a0_0)) (fun _ hk => hk.2) (.int .i64 t1234)) (fun _ hk => hk.2) (.int .i64 t1235)) (fun _ hk => hk.2) (.int .i64 t1236)) (fun _ hk => hk.2) (.slice Ao14 t1237.length co14)) (fun _ hk => hk.2) (.int .i64 a0_5)) (fun _ hk => hk.2) (.slice Ao17 t1240.length co17)) (fun _ hk => hk.2) (.int .i64 t1243)) (fun _ hk => hk.2) (.bool t1244)) (fun _ hk => hk.2) (.int .i64 t1245)) (fun _ hk => hk.2) (.int .i64 t1246)) (fun _ hk => trivial), by repeat (first | (with_reducible first | exact HB.out | apply zC | apply zB | apply zF | refine zE ?_ GE1231.out | refine zE ?_ GE1232.out | refine zE ?_ GE1233.out) | exact HB.out)⟩
end Go.Proofs.Ytilimpjcdeeaiaa.G


namespace Go.Proofs.Ytilimpjcdeeaiaa.G
open Go.RowKit Go.Proofs.YtilimpjcdeeaiaaW.PrintWords Go.Proofs.YtilimpjcdeeaiaaW.PrintLast Go.Proofs.YtilimpjcdeeaiaaW.PrintMore
attribute [local go_sem] max2_int min2_int max_two min_two max_three min_three max_four min_four   -- for this text's walks alone
def impl_isPrec.f (a0 : Int) : Option (Bool) := if a0 = 8 then (some true) else (some (a0 == 12))
set_option maxHeartbeats 8000000 in
set_option maxRecDepth 100000 in
theorem impl_isPrec.calls (a0 : Int) (r : Bool) (w : World) (h : impl_isPrec.f a0 = some r) :
  Calls Try.prog 138 #[.int .i64 a0] w fun e w' => e = .returned (.bool r) ∧ Drawn0 w w' := by
 have H : (if a0 = 8 then (some true) else (some (a0 == 12))) = some r := h
 clear h
 by_cases c2 : a0 = 8
 ·rw [if_pos c2] at H
  have c2b0 : (a0 == 8) = true := beq_iff_eq.mpr c2
  have c2b1 : (a0 != 8) = false := bne_eq_false_iff_eq.mpr c2
  clear c2
  obtain rfl := Option.some.inj H
  go_enter Try.func138, Try.ntmps138
  go_wp2
  go_ret
  exact ⟨by first | rfl | (simp; done) | (simp [*]; done), by repeat (first | exact Drawn0.refl _ | apply Drawn0.step)⟩
 ·rw [if_neg c2] at H
  have c2b0 : (a0 == 8) = false := beq_eq_false_iff_ne.mpr c2
  have c2b1 : (a0 != 8) = true := bne_iff_ne.mpr c2
  obtain rfl := Option.some.inj H
  go_enter Try.func138, Try.ntmps138
  go_wp2
  go_ret
  exact ⟨by first | rfl | (simp; done) | (simp [*]; done), by repeat (first | exact Drawn0.refl _ | apply Drawn0.step)⟩
end Go.Proofs.Ytilimpjcdeeaiaa.G


namespace Go.Proofs.Ytilimpjcdeeaiaa.G
open Go.RowKit Go.Proofs.YtilimpjcdeeaiaaW.PrintWords Go.Proofs.YtilimpjcdeeaiaaW.PrintLast Go.Proofs.YtilimpjcdeeaiaaW.PrintMore
attribute [local go_sem] max2_int min2_int max_two min_two max_three min_three max_four min_four   -- for this text's walks alone
def impl_allWithin.l0 : Nat → Int → Int → List Int → Int → Int → Option (Bool)
 | 0, _, _, _, _, _ => none
 | k + 1, x1, x2, x9, x10, x11 => if x11 < x10 then (if 0 ≤ x11 then (if x11 < (x9.length : Int) then ((impl_within.f (rd x9 x11) x1 x2).bind fun t554 => (if t554 = true then (impl_allWithin.l0 k x1 x2 x9 x10 (wrap64 (x11 + 1))) else (some false))) else (none)) else (none)) else (some true)
def impl_allWithin.f (k : Nat) (l0 : List Int) (a1 : Int) (a2 : Int) : Option (Bool) := impl_allWithin.l0 k a1 a2 l0 (l0.length : Int) 0
theorem impl_allWithin.mono_l : ∀ k, (∀ y0 y1 y2 y3 y4, LeO (impl_allWithin.l0 k y0 y1 y2 y3 y4) (impl_allWithin.l0 (k + 1) y0 y1 y2 y3 y4))
 | 0 => fun _ _ _ _ _ r h => by simp [impl_allWithin.l0] at h
 | k + 1 => by
  have ih0 := impl_allWithin.mono_l k
  ·intro y0 y1 y2 y3 y4
   unfold impl_allWithin.l0
   repeat' first
   | (with_reducible exact ih0 _ _ _ _ _)
   | (with_reducible exact LeO.refl _)
   | (with_reducible exact LeO.none _)
   | (with_reducible refine LeO.ite ?_ ?_)
   | (with_reducible refine LeO.bind ?_ (fun _ => ?_))
   | exact ih0 _ _ _ _ _
   | exact LeO.none _
   | refine LeO.ite ?_ ?_
   | refine LeO.bind ?_ (fun _ => ?_)
theorem impl_allWithin.mono : ∀ a0 a1 a2 k, LeO (impl_allWithin.f k a0 a1 a2) (impl_allWithin.f (k + 1) a0 a1 a2) := by
 intro a0 a1 a2 k
 have ih0 := impl_allWithin.mono_l k
 unfold impl_allWithin.f
 repeat' first
   | (with_reducible exact ih0 _ _ _ _ _)
   | (with_reducible exact LeO.refl _)
   | (with_reducible exact LeO.none _)
   | (with_reducible refine LeO.ite ?_ ?_)
   | (with_reducible refine LeO.bind ?_ (fun _ => ?_))
   | exact ih0 _ _ _ _ _
   | exact LeO.none _
   | refine LeO.ite ?_ ?_
   | refine LeO.bind ?_ (fun _ => ?_)
set_option maxHeartbeats 8000000 in
set_option maxRecDepth 100000 in
theorem impl_allWithin.calls (k : Nat) (A0 : Option Addr) (c0 : Nat) (l0 : List Int) (a1 : Int) (a2 : Int) (r : Bool) (w : World) (hr0 : Kd.C (Kd.int .i64) w A0 l0.length l0) (hc0 : l0.length ≤ c0) (h : impl_allWithin.f k l0 a1 a2 = some r) :
  Calls Try.prog 75 #[.slice A0 l0.length c0, .int .i64 a1, .int .i64 a2] w fun e w' => e = .returned (.bool r) ∧ Drawn0 w w' := by
 have HR0 := zA hr0
 have HC0 := zA hc0
 clear hr0 hc0
 have H : (impl_allWithin.l0 k a1 a2 l0 (l0.length : Int) 0) = some r := h
 clear h
 have H' := zA H
 clear H
 go_enter Try.func75, Try.ntmps75
 go_wp2
 go_loopg [11] k (fun kq v11 w' => ∃ (x11_1 : Int), v11 = .int .i64 x11_1 ∧ Aside0 (impl_allWithin.l0 kq a1 a2 l0 (l0.length : Int) x11_1 = some r) ∧ Aside0 (kq ≤ k) ∧ Drawn0 w w')
 case atStart => exact ⟨(0), (by first | rfl | (simp; done) | (simp [*]; done)), H', ⟨Nat.le_refl _⟩, by repeat (first | exact Drawn0.refl _ | apply Drawn0.step)⟩
 case round =>
  clear H'
  try clear p2
  obtain ⟨x11_1, rfl, HA, HK1, ⟨m1, rfl⟩⟩ := hrel
  cases gk with
  | zero => exact absurd HA.out (by simp [impl_allWithin.l0])
  | succ k1 =>
   have H := HA.out
   clear HA
   simp only [impl_allWithin.l0] at H
   by_cases c4 : x11_1 < (l0.length : Int)
   ·rw [if_pos c4] at H
    have c4b0 : decide (x11_1 < (l0.length : Int)) = true := zT c4
    clear c4
    by_cases c5 : 0 ≤ x11_1
    ·rw [if_pos c5] at H
     have c5b0 : decide (0 ≤ x11_1) = true := zT c5
     clear c5
     by_cases c6 : x11_1 < (l0.length : Int)
     ·rw [if_pos c6] at H
      have c6b0 : decide (x11_1 < (l0.length : Int)) = true := zT c6
      clear c6
      replace H := Option.bind_eq_some_iff.mp H
      obtain ⟨t554, A70, H⟩ := H
      replace H : (if t554 = true then (impl_allWithin.l0 k1 a1 a2 l0 (l0.length : Int) (wrap64 (x11_1 + 1))) else (some false)) = some r := H
      have A7 := zA A70
      clear A70
      by_cases c8 : t554 = true
      ·subst c8
       have H1 : (impl_allWithin.l0 k1 a1 a2 l0 (l0.length : Int) (wrap64 (x11_1 + 1))) = some r := by rw [if_pos rfl] at H; exact H
       clear H
       have H := H1
       clear H1
       have H' := zA H
       clear H
       have p553 : 0 ≤ (x11_1 : Int) := zI (by first | (with_reducible assumption) | assumption)
       have q553 : x11_1 < (l0.length : Int) := zI (by first | (with_reducible assumption) | assumption)
       obtain ⟨ad553, e553, hx553_0⟩ := Kd.at_int HR0.out x11_1 p553 q553
       cases e553
       replace p553 := eq_true p553
       replace q553 := eq_true q553
       go_wp2_with (first | ((with_reducible refine gate_callee (f := 53) rfl ?_); refine goesL_ (some 18) rfl rfl Try.func53 (by kernel_rfl) rfl #[.int .i64 (rd l0 x11_1), .int .i64 a1, .int .i64 a2] rfl (by (try simp only [zU, zV, zW]); first | done | rfl | (simp only [zR, zQ]; rfl)) ?_; (with_reducible refine (impl_within.calls (rd l0 x11_1) a1 a2 true _ A7.out).mono ?_); rintro e w' ⟨rfl, ⟨nd, rfl⟩⟩; refine ⟨_, rfl, ?_⟩))
       go_roundg k1
       case measure => have := HK1.out; omega
       case rel => exact ⟨(wrap64 (x11_1 + 1)), (by first | rfl | (simp; done) | (simp [*]; done)), H', ⟨by have := HK1.out; omega⟩, by repeat (first | exact Drawn0.refl _ | apply Drawn0.step)⟩
      ·replace c8 := Bool.eq_false_iff.mpr c8
       subst c8
       have H1 : (some false) = some r := by rw [if_neg (show ¬ (false = true) by decide)] at H; exact H
       clear H
       have H := H1
       clear H1
       obtain rfl := Option.some.inj H
       have p553 : 0 ≤ (x11_1 : Int) := zI (by first | (with_reducible assumption) | assumption)
       have q553 : x11_1 < (l0.length : Int) := zI (by first | (with_reducible assumption) | assumption)
       obtain ⟨ad553, e553, hx553_0⟩ := Kd.at_int HR0.out x11_1 p553 q553
       cases e553
       replace p553 := eq_true p553
       replace q553 := eq_true q553
       go_wp2_with (first | ((with_reducible refine gate_callee (f := 53) rfl ?_); refine goesL_ (some 18) rfl rfl Try.func53 (by kernel_rfl) rfl #[.int .i64 (rd l0 x11_1), .int .i64 a1, .int .i64 a2] rfl (by (try simp only [zU, zV, zW]); first | done | rfl | (simp only [zR, zQ]; rfl)) ?_; (with_reducible refine (impl_within.calls (rd l0 x11_1) a1 a2 false _ A7.out).mono ?_); rintro e w' ⟨rfl, ⟨nd, rfl⟩⟩; refine ⟨_, rfl, ?_⟩))
       go_ret
       exact ⟨by first | rfl | (simp; done) | (simp [*]; done), by repeat (first | exact Drawn0.refl _ | apply Drawn0.step)⟩
     ·rw [if_neg c6] at H
      exact absurd H (by simp)
    ·rw [if_neg c5] at H
     exact absurd H (by simp)
   ·rw [if_neg c4] at H
    have c4b0 : decide (x11_1 < (l0.length : Int)) = false := decide_eq_false c4
    clear c4
    obtain rfl := Option.some.inj H
    go_wp2
    go_ret
    exact ⟨by first | rfl | (simp; done) | (simp [*]; done), by repeat (first | exact Drawn0.refl _ | apply Drawn0.step)⟩
theorem impl_allWithin.go (lo hi : Int) (l : List Int) (hm : l.length < 4611686018427387904) (d : Nat) : ∀ (i : Nat) (k : Nat), l.length - i = d → i ≤ l.length → d < k →
  impl_allWithin.l0 k lo hi l (l.length : Int) (i : Int) = some (allW lo hi (l.drop i)) := by
 induction d with
 | zero =>
  intro i k hd hi' hk
  obtain ⟨k, rfl⟩ : ∃ m, k = m + 1 := ⟨k - 1, by omega⟩
  obtain rfl : i = l.length := by omega
  simp only [impl_allWithin.l0]
  rw [if_neg (by omega)]
  simp [allW]
 | succ d ih =>
  intro i k hd hi' hk
  obtain ⟨k, rfl⟩ : ∃ m, k = m + 1 := ⟨k - 1, by omega⟩
  have hlt : i < l.length := by omega
  simp only [impl_allWithin.l0]
  rw [if_pos (by omega), if_pos (by omega), if_pos (by omega)]
  have hrd : rd l (i : Int) = l[i] := by simp [rd, hlt]
  have hda : allW lo hi (l.drop i) = (decide (lo ≤ l[i]) && decide (l[i] ≤ hi) && allW lo hi (l.drop (i + 1))) := by
   unfold allW; rw [List.drop_eq_getElem_cons hlt, List.all_cons]
  have hw : wrap64 ((i : Int) + 1) = ((i + 1 : Nat) : Int) := by unfold wrap64; omega
  rw [hda, hrd, hw, ih (i + 1) k (by omega) (by omega) (by omega)]
  unfold impl_within.f
  by_cases h1 : l[i] ≥ lo
  ·rw [if_pos h1]
   by_cases h2 : l[i] ≤ hi
   ·simp [h2, ge_iff_le.mp h1]
   ·simp [h2]
  ·rw [if_neg h1]
   have : ¬ lo ≤ l[i] := h1
   simp [this]
theorem impl_allWithin.ev (lo hi : Int) (l : List Int) (hm : l.length < 4611686018427387904) : ∃ k, impl_allWithin.f k l lo hi = some (allW lo hi l) :=
 ⟨l.length + 1, by unfold impl_allWithin.f; exact impl_allWithin.go lo hi l hm l.length 0 _ (by omega) (by omega) (by omega)⟩
end Go.Proofs.Ytilimpjcdeeaiaa.G


namespace Go.Proofs.Ytilimpjcdeeaiaa.G
open Go.RowKit Go.Proofs.YtilimpjcdeeaiaaW.PrintWords Go.Proofs.YtilimpjcdeeaiaaW.PrintLast Go.Proofs.YtilimpjcdeeaiaaW.PrintMore
attribute [local go_sem] max2_int min2_int max_two min_two max_three min_three max_four min_four   -- for this text's walks alone
mutual
def impl_PictureOk.j0 : Nat → Bool → Int → Int → Int → List (List Int) → Option (Bool)
 | 0, _, _, _, _, _ => none
 | k + 1, x35, x1264000, x1264001, x1264002, x1264003 => if x35 = true then (some false) else (impl_PictureOk.l0 k x1264003 (x1264003.length : Int) 0 x1264000 x1264001 x1264002 x1264003)
def impl_PictureOk.l0 : Nat → List (List Int) → Int → Int → Int → Int → Int → List (List Int) → Option (Bool)
 | 0, _, _, _, _, _, _, _ => none
 | k + 1, x37, x38, x39, x1264000, x1264001, x1264002, x1264003 => if x39 < x38 then (if 0 ≤ x39 then (if x39 < (x37.length : Int) then (if ((rd_L3 x37 x39).length : Int) = (wrap64 (x1264001 * x1264002)) then (if 0 ≤ x1264000 then ((impl_allWithin.f k (rd_L3 x37 x39) 0 (wrap64 ((shl .i64 1 x1264000) - 1))).bind fun t1269 => (if t1269 = true then (impl_PictureOk.l0 k x37 x38 (wrap64 (x39 + 1)) x1264000 x1264001 x1264002 x1264003) else (some false))) else (none)) else (some false)) else (none)) else (none)) else (some true)
end
def impl_PictureOk.f (k : Nat) (a0_0 : Int) (a0_1 : Int) (a0_2 : Int) (l0_3 : List (List Int)) : Option (Bool) := (impl_isPrec.f a0_0).bind fun t1264 => (if t1264 = true then ((impl_within.f a0_1 1 256).bind fun t1265 => (if t1265 = true then ((impl_within.f a0_2 1 256).bind fun t1266 => (if t1266 = true then (if (wrap64 (a0_1 * a0_2)) > 16384 then (impl_PictureOk.j0 k true a0_0 a0_1 a0_2 l0_3) else ((impl_within.f (l0_3.length : Int) 1 4).bind fun t1267 => (impl_PictureOk.j0 k (!t1267) a0_0 a0_1 a0_2 l0_3))) else (impl_PictureOk.j0 k true a0_0 a0_1 a0_2 l0_3))) else (impl_PictureOk.j0 k true a0_0 a0_1 a0_2 l0_3))) else (impl_PictureOk.j0 k true a0_0 a0_1 a0_2 l0_3))
theorem impl_PictureOk.mono_l : ∀ k, (∀ y0 y1 y2 y3 y4, LeO (impl_PictureOk.j0 k y0 y1 y2 y3 y4) (impl_PictureOk.j0 (k + 1) y0 y1 y2 y3 y4)) ∧ (∀ y0 y1 y2 y3 y4 y5 y6, LeO (impl_PictureOk.l0 k y0 y1 y2 y3 y4 y5 y6) (impl_PictureOk.l0 (k + 1) y0 y1 y2 y3 y4 y5 y6))
 | 0 => ⟨fun _ _ _ _ _ r h => by simp [impl_PictureOk.j0] at h, fun _ _ _ _ _ _ _ r h => by simp [impl_PictureOk.l0] at h⟩
 | k + 1 => by
  obtain ⟨ih0, ih1⟩ := impl_PictureOk.mono_l k
  refine ⟨?_, ?_⟩
  ·intro y0 y1 y2 y3 y4
   unfold impl_PictureOk.j0
   repeat' first
   | (with_reducible exact ih0 _ _ _ _ _)
   | (with_reducible exact ih1 _ _ _ _ _ _ _)
   | (with_reducible exact impl_allWithin.mono _ _ _ _)
   | (with_reducible exact LeO.refl _)
   | (with_reducible exact LeO.none _)
   | (with_reducible refine LeO.ite ?_ ?_)
   | (with_reducible refine LeO.bind ?_ (fun _ => ?_))
   | exact ih0 _ _ _ _ _
   | exact ih1 _ _ _ _ _ _ _
   | exact impl_allWithin.mono _ _ _ _
   | exact LeO.none _
   | refine LeO.ite ?_ ?_
   | refine LeO.bind ?_ (fun _ => ?_)
  ·intro y0 y1 y2 y3 y4 y5 y6
   unfold impl_PictureOk.l0
   repeat' first
   | (with_reducible exact ih0 _ _ _ _ _)
   | (with_reducible exact ih1 _ _ _ _ _ _ _)
   | (with_reducible exact impl_allWithin.mono _ _ _ _)
   | (with_reducible exact LeO.refl _)
   | (with_reducible exact LeO.none _)
   | (with_reducible refine LeO.ite ?_ ?_)
   | (with_reducible refine LeO.bind ?_ (fun _ => ?_))
   | exact ih0 _ _ _ _ _
   | exact ih1 _ _ _ _ _ _ _
   | exact impl_allWithin.mono _ _ _ _
   | exact LeO.none _
   | refine LeO.ite ?_ ?_
   | refine LeO.bind ?_ (fun _ => ?_)
theorem impl_PictureOk.mono : ∀ a0 a1 a2 a3 k, LeO (impl_PictureOk.f k a0 a1 a2 a3) (impl_PictureOk.f (k + 1) a0 a1 a2 a3) := by
 intro a0 a1 a2 a3 k
 obtain ⟨ih0, ih1⟩ := impl_PictureOk.mono_l k
 unfold impl_PictureOk.f
 repeat' first
   | (with_reducible exact ih0 _ _ _ _ _)
   | (with_reducible exact ih1 _ _ _ _ _ _ _)
   | (with_reducible exact impl_allWithin.mono _ _ _ _)
   | (with_reducible exact LeO.refl _)
   | (with_reducible exact LeO.none _)
   | (with_reducible refine LeO.ite ?_ ?_)
   | (with_reducible refine LeO.bind ?_ (fun _ => ?_))
   | exact ih0 _ _ _ _ _
   | exact ih1 _ _ _ _ _ _ _
   | exact impl_allWithin.mono _ _ _ _
   | exact LeO.none _
   | refine LeO.ite ?_ ?_
   | refine LeO.bind ?_ (fun _ => ?_)
set_option maxHeartbeats 8000000 in
set_option maxRecDepth 100000 in
theorem impl_PictureOk.calls (k : Nat) (a0_0 : Int) (a0_1 : Int) (a0_2 : Int) (A0_3 : Option Addr) (c0_3 : Nat) (l0_3 : List (List Int)) (r : Bool) (w : World) (hr0_3 : Kd.C (Kd.slice 3 (Kd.int .i64)) w A0_3 l0_3.length l0_3) (hc0_3 : l0_3.length ≤ c0_3) (h : impl_PictureOk.f k a0_0 a0_1 a0_2 l0_3 = some r) :
  Calls Try.prog 100 #[.agg #[.int .i64 a0_0, .int .i64 a0_1, .int .i64 a0_2, .slice A0_3 l0_3.length c0_3]] w fun e w' => e = .returned (.bool r) ∧ Below w.heap.size w w' := by
 have hu81 := Try.underlying81
 have HR0_3 := zA hr0_3
 have HC0_3 := zA hc0_3
 clear hr0_3 hc0_3
 have HB := zA (Below.refl w.heap.size w)
 have H : ((impl_isPrec.f a0_0).bind fun t1264 => (if t1264 = true then ((impl_within.f a0_1 1 256).bind fun t1265 => (if t1265 = true then ((impl_within.f a0_2 1 256).bind fun t1266 => (if t1266 = true then (if (wrap64 (a0_1 * a0_2)) > 16384 then (impl_PictureOk.j0 k true a0_0 a0_1 a0_2 l0_3) else ((impl_within.f (l0_3.length : Int) 1 4).bind fun t1267 => (impl_PictureOk.j0 k (!t1267) a0_0 a0_1 a0_2 l0_3))) else (impl_PictureOk.j0 k true a0_0 a0_1 a0_2 l0_3))) else (impl_PictureOk.j0 k true a0_0 a0_1 a0_2 l0_3))) else (impl_PictureOk.j0 k true a0_0 a0_1 a0_2 l0_3))) = some r := h
 clear h
 have HC2 := zA H
 clear H
 go_enter Try.func100, Try.ntmps100
 go_upto_region 1 with (first | ((with_reducible refine gate_dst (N := 1) rfl ?_); (try (refine gate_guard (by rfl) ?_; dsimp only)); refine box_event ?hg (N := 1) ?hd (cs := #[.int .i64 a0_0, .int .i64 a0_1, .int .i64 a0_2, .slice A0_3 l0_3.length c0_3]) (t := 81) ?hr ?_; (case hd => rfl); (case hg => rfl); (case hr => first | (go_simp; done) | (go_simp; rfl)); intro gb1263 hg w3 hbox hb; have n0_ := zA (below_step (by repeat (first | (with_reducible first | exact HB.out | apply zC | apply zB | apply zF) | exact HB.out)) hb); have n1_ := zA (hbox); have n2_ := zA ((by rw [hg]; exact (zL (by repeat (first | (with_reducible first | exact HB.out | apply zC | apply zB | apply zF) | exact HB.out))) : w.heap.size ≤ gb1263)); have n3_ := zA ((by rw [hg]; exact (zL (by repeat (first | (with_reducible first | exact HB.out | apply zC | apply zB | apply zF) | exact HB.out))) : w.heap.size ≤ gb1263)); clear HB; have HB := n0_; have BK1263 := n1_; have GW1263 := n2_; have GE1263 := n3_; clear n0_ n1_ n2_ n3_; clear hb hbox hg))
 (try simp only [Act.put, List.setIfInBounds_toArray, List.set_cons_zero, List.set_cons_succ])
 go_cut [35] (fun v35 wc => ∃ (kq : Nat) (x35_1 : Bool), v35 = .bool x35_1 ∧ Aside0 (impl_PictureOk.j0 kq x35_1 a0_0 a0_1 a0_2 l0_3 = some r) ∧ Aside0 (kq ≤ k) ∧ Aside0 (wc.heap[gb1263]? = some (.cells #[.int .i64 a0_0, .int .i64 a0_1, .int .i64 a0_2, (.slice A0_3 l0_3.length c0_3)] 81 (0, 0))) ∧ Aside0 (Below w.heap.size w wc))
 case first =>
  have H := HC2.out
  clear HC2
  replace H := Option.bind_eq_some_iff.mp H
  obtain ⟨t1264, A40, H⟩ := H
  replace H : (if t1264 = true then ((impl_within.f a0_1 1 256).bind fun t1265 => (if t1265 = true then ((impl_within.f a0_2 1 256).bind fun t1266 => (if t1266 = true then (if (wrap64 (a0_1 * a0_2)) > 16384 then (impl_PictureOk.j0 k true a0_0 a0_1 a0_2 l0_3) else ((impl_within.f (l0_3.length : Int) 1 4).bind fun t1267 => (impl_PictureOk.j0 k (!t1267) a0_0 a0_1 a0_2 l0_3))) else (impl_PictureOk.j0 k true a0_0 a0_1 a0_2 l0_3))) else (impl_PictureOk.j0 k true a0_0 a0_1 a0_2 l0_3))) else (impl_PictureOk.j0 k true a0_0 a0_1 a0_2 l0_3)) = some r := H
  have A4 := zA A40
  clear A40
  by_cases c5 : t1264 = true
  ·subst c5
   have H1 : ((impl_within.f a0_1 1 256).bind fun t1265 => (if t1265 = true then ((impl_within.f a0_2 1 256).bind fun t1266 => (if t1266 = true then (if (wrap64 (a0_1 * a0_2)) > 16384 then (impl_PictureOk.j0 k true a0_0 a0_1 a0_2 l0_3) else ((impl_within.f (l0_3.length : Int) 1 4).bind fun t1267 => (impl_PictureOk.j0 k (!t1267) a0_0 a0_1 a0_2 l0_3))) else (impl_PictureOk.j0 k true a0_0 a0_1 a0_2 l0_3))) else (impl_PictureOk.j0 k true a0_0 a0_1 a0_2 l0_3))) = some r := by rw [if_pos rfl] at H; exact H
   clear H
   have H := H1
   clear H1
   replace H := Option.bind_eq_some_iff.mp H
   obtain ⟨t1265, A60, H⟩ := H
   replace H : (if t1265 = true then ((impl_within.f a0_2 1 256).bind fun t1266 => (if t1266 = true then (if (wrap64 (a0_1 * a0_2)) > 16384 then (impl_PictureOk.j0 k true a0_0 a0_1 a0_2 l0_3) else ((impl_within.f (l0_3.length : Int) 1 4).bind fun t1267 => (impl_PictureOk.j0 k (!t1267) a0_0 a0_1 a0_2 l0_3))) else (impl_PictureOk.j0 k true a0_0 a0_1 a0_2 l0_3))) else (impl_PictureOk.j0 k true a0_0 a0_1 a0_2 l0_3)) = some r := H
   have A6 := zA A60
   clear A60
   by_cases c7 : t1265 = true
   ·subst c7
    have H1 : ((impl_within.f a0_2 1 256).bind fun t1266 => (if t1266 = true then (if (wrap64 (a0_1 * a0_2)) > 16384 then (impl_PictureOk.j0 k true a0_0 a0_1 a0_2 l0_3) else ((impl_within.f (l0_3.length : Int) 1 4).bind fun t1267 => (impl_PictureOk.j0 k (!t1267) a0_0 a0_1 a0_2 l0_3))) else (impl_PictureOk.j0 k true a0_0 a0_1 a0_2 l0_3))) = some r := by rw [if_pos rfl] at H; exact H
    clear H
    have H := H1
    clear H1
    replace H := Option.bind_eq_some_iff.mp H
    obtain ⟨t1266, A80, H⟩ := H
    replace H : (if t1266 = true then (if (wrap64 (a0_1 * a0_2)) > 16384 then (impl_PictureOk.j0 k true a0_0 a0_1 a0_2 l0_3) else ((impl_within.f (l0_3.length : Int) 1 4).bind fun t1267 => (impl_PictureOk.j0 k (!t1267) a0_0 a0_1 a0_2 l0_3))) else (impl_PictureOk.j0 k true a0_0 a0_1 a0_2 l0_3)) = some r := H
    have A8 := zA A80
    clear A80
    by_cases c9 : t1266 = true
    ·subst c9
     have H1 : (if (wrap64 (a0_1 * a0_2)) > 16384 then (impl_PictureOk.j0 k true a0_0 a0_1 a0_2 l0_3) else ((impl_within.f (l0_3.length : Int) 1 4).bind fun t1267 => (impl_PictureOk.j0 k (!t1267) a0_0 a0_1 a0_2 l0_3))) = some r := by rw [if_pos rfl] at H; exact H
     clear H
     have H := H1
     clear H1
     by_cases c10 : (wrap64 (a0_1 * a0_2)) > 16384
     ·rw [if_pos c10] at H
      have c10b0 : decide (16384 < (wrap64 (a0_1 * a0_2))) = true := zT c10
      clear c10
      (first | rw [c10b0] | (simp only [i64_w, i32_w]; rw [c10b0]) | skip)
      have H' := zA H
      clear H
      have hcz11_0 : w3.cell? ⟨gb1263, 0, none⟩ = some (.int .i64 a0_0) := (zK BK1263.out 0).trans rfl
      have hcz11_1 : w3.cell? ⟨gb1263, 1, none⟩ = some (.int .i64 a0_1) := (zK BK1263.out 1).trans rfl
      have hcz11_2 : w3.cell? ⟨gb1263, 2, none⟩ = some (.int .i64 a0_2) := (zK BK1263.out 2).trans rfl
      have hcz11_3 : w3.cell? ⟨gb1263, 3, none⟩ = some (.slice A0_3 l0_3.length c0_3) := (zK BK1263.out 3).trans rfl
      have hfz11_0 := zJ BK1263.out 0
      have hfz11_1 := zJ BK1263.out 1
      have hfz11_2 := zJ BK1263.out 2
      have hfz11_3 := zJ BK1263.out 3
      go_wp2_with (first | ((with_reducible refine gate_callee (f := 138) rfl ?_); refine goesL_ (some 7) rfl rfl Try.func138 (by kernel_rfl) rfl #[.int .i64 a0_0] rfl (by (try simp only [zU, zV, zW]); first | done | rfl | (simp only [zR, zQ]; rfl)) ?_; (with_reducible refine (impl_isPrec.calls a0_0 true _ A4.out).mono ?_); rintro e w' ⟨rfl, ⟨nd, rfl⟩⟩; refine ⟨_, rfl, ?_⟩) | (go_at_call 53; (with_reducible refine (impl_within.calls a0_1 1 256 true _ A6.out).mono ?_); rintro e w' ⟨rfl, ⟨nd, rfl⟩⟩) | (go_at_call 53; (with_reducible refine (impl_within.calls a0_2 1 256 true _ A8.out).mono ?_); rintro e w' ⟨rfl, ⟨nd, rfl⟩⟩))
      go_meet
      case rel => exact ⟨_, (true), (by first | rfl | (simp; done) | (simp [*]; done)), H', ⟨by first | omega | exact Nat.le_refl _⟩, ⟨by (with_reducible repeat (first | refine zG ?_ _ | refine zH ?_ | refine zD ?_ _)); exact BK1263.out⟩, ⟨by repeat (first | (with_reducible first | exact HB.out | apply zC | apply zB | apply zF | refine zE ?_ GE1263.out) | exact HB.out)⟩⟩
     ·rw [if_neg c10] at H
      have c10b0 : decide (16384 < (wrap64 (a0_1 * a0_2))) = false := decide_eq_false c10
      clear c10
      (first | rw [c10b0] | (simp only [i64_w, i32_w]; rw [c10b0]) | skip)
      replace H := Option.bind_eq_some_iff.mp H
      obtain ⟨t1267, A120, H⟩ := H
      replace H : (impl_PictureOk.j0 k (!t1267) a0_0 a0_1 a0_2 l0_3) = some r := H
      have A12 := zA A120
      clear A120
      have H' := zA H
      clear H
      have hcz13_0 : w3.cell? ⟨gb1263, 0, none⟩ = some (.int .i64 a0_0) := (zK BK1263.out 0).trans rfl
      have hcz13_1 : w3.cell? ⟨gb1263, 1, none⟩ = some (.int .i64 a0_1) := (zK BK1263.out 1).trans rfl
      have hcz13_2 : w3.cell? ⟨gb1263, 2, none⟩ = some (.int .i64 a0_2) := (zK BK1263.out 2).trans rfl
      have hcz13_3 : w3.cell? ⟨gb1263, 3, none⟩ = some (.slice A0_3 l0_3.length c0_3) := (zK BK1263.out 3).trans rfl
      have hfz13_0 := zJ BK1263.out 0
      have hfz13_1 := zJ BK1263.out 1
      have hfz13_2 := zJ BK1263.out 2
      have hfz13_3 := zJ BK1263.out 3
      go_wp2_with (first | ((with_reducible refine gate_callee (f := 138) rfl ?_); refine goesL_ (some 7) rfl rfl Try.func138 (by kernel_rfl) rfl #[.int .i64 a0_0] rfl (by (try simp only [zU, zV, zW]); first | done | rfl | (simp only [zR, zQ]; rfl)) ?_; (with_reducible refine (impl_isPrec.calls a0_0 true _ A4.out).mono ?_); rintro e w' ⟨rfl, ⟨nd, rfl⟩⟩; refine ⟨_, rfl, ?_⟩) | (go_at_call 53; (with_reducible refine (impl_within.calls a0_1 1 256 true _ A6.out).mono ?_); rintro e w' ⟨rfl, ⟨nd, rfl⟩⟩) | (go_at_call 53; (with_reducible refine (impl_within.calls a0_2 1 256 true _ A8.out).mono ?_); rintro e w' ⟨rfl, ⟨nd, rfl⟩⟩) | (go_at_call 53; (with_reducible refine (impl_within.calls (l0_3.length : Int) 1 4 t1267 _ A12.out).mono ?_); rintro e w' ⟨rfl, ⟨nd, rfl⟩⟩))
      go_meet
      case rel => exact ⟨_, (!t1267), (by first | rfl | (simp; done) | (simp [*]; done)), H', ⟨by first | omega | exact Nat.le_refl _⟩, ⟨by (with_reducible repeat (first | refine zG ?_ _ | refine zH ?_ | refine zD ?_ _)); exact BK1263.out⟩, ⟨by repeat (first | (with_reducible first | exact HB.out | apply zC | apply zB | apply zF | refine zE ?_ GE1263.out) | exact HB.out)⟩⟩
    ·replace c9 := Bool.eq_false_iff.mpr c9
     subst c9
     have H1 : (impl_PictureOk.j0 k true a0_0 a0_1 a0_2 l0_3) = some r := by rw [if_neg (show ¬ (false = true) by decide)] at H; exact H
     clear H
     have H := H1
     clear H1
     have H' := zA H
     clear H
     have hcz14_0 : w3.cell? ⟨gb1263, 0, none⟩ = some (.int .i64 a0_0) := (zK BK1263.out 0).trans rfl
     have hcz14_1 : w3.cell? ⟨gb1263, 1, none⟩ = some (.int .i64 a0_1) := (zK BK1263.out 1).trans rfl
     have hcz14_2 : w3.cell? ⟨gb1263, 2, none⟩ = some (.int .i64 a0_2) := (zK BK1263.out 2).trans rfl
     have hcz14_3 : w3.cell? ⟨gb1263, 3, none⟩ = some (.slice A0_3 l0_3.length c0_3) := (zK BK1263.out 3).trans rfl
     have hfz14_0 := zJ BK1263.out 0
     have hfz14_1 := zJ BK1263.out 1
     have hfz14_2 := zJ BK1263.out 2
     have hfz14_3 := zJ BK1263.out 3
     go_wp2_with (first | ((with_reducible refine gate_callee (f := 138) rfl ?_); refine goesL_ (some 7) rfl rfl Try.func138 (by kernel_rfl) rfl #[.int .i64 a0_0] rfl (by (try simp only [zU, zV, zW]); first | done | rfl | (simp only [zR, zQ]; rfl)) ?_; (with_reducible refine (impl_isPrec.calls a0_0 true _ A4.out).mono ?_); rintro e w' ⟨rfl, ⟨nd, rfl⟩⟩; refine ⟨_, rfl, ?_⟩) | (go_at_call 53; (with_reducible refine (impl_within.calls a0_1 1 256 true _ A6.out).mono ?_); rintro e w' ⟨rfl, ⟨nd, rfl⟩⟩) | (go_at_call 53; (with_reducible refine (impl_within.calls a0_2 1 256 false _ A8.out).mono ?_); rintro e w' ⟨rfl, ⟨nd, rfl⟩⟩))
     go_meet
     case rel => exact ⟨_, (true), (by first | rfl | (simp; done) | (simp [*]; done)), H', ⟨by first | omega | exact Nat.le_refl _⟩, ⟨by (with_reducible repeat (first | refine zG ?_ _ | refine zH ?_ | refine zD ?_ _)); exact BK1263.out⟩, ⟨by repeat (first | (with_reducible first | exact HB.out | apply zC | apply zB | apply zF | refine zE ?_ GE1263.out) | exact HB.out)⟩⟩
   ·replace c7 := Bool.eq_false_iff.mpr c7
    subst c7
    have H1 : (impl_PictureOk.j0 k true a0_0 a0_1 a0_2 l0_3) = some r := by rw [if_neg (show ¬ (false = true) by decide)] at H; exact H
    clear H
    have H := H1
    clear H1
    have H' := zA H
    clear H
    have hcz15_0 : w3.cell? ⟨gb1263, 0, none⟩ = some (.int .i64 a0_0) := (zK BK1263.out 0).trans rfl
    have hcz15_1 : w3.cell? ⟨gb1263, 1, none⟩ = some (.int .i64 a0_1) := (zK BK1263.out 1).trans rfl
    have hcz15_2 : w3.cell? ⟨gb1263, 2, none⟩ = some (.int .i64 a0_2) := (zK BK1263.out 2).trans rfl
    have hcz15_3 : w3.cell? ⟨gb1263, 3, none⟩ = some (.slice A0_3 l0_3.length c0_3) := (zK BK1263.out 3).trans rfl
    have hfz15_0 := zJ BK1263.out 0
    have hfz15_1 := zJ BK1263.out 1
    have hfz15_2 := zJ BK1263.out 2
    have hfz15_3 := zJ BK1263.out 3
    go_wp2_with (first | ((with_reducible refine gate_callee (f := 138) rfl ?_); refine goesL_ (some 7) rfl rfl Try.func138 (by kernel_rfl) rfl #[.int .i64 a0_0] rfl (by (try simp only [zU, zV, zW]); first | done | rfl | (simp only [zR, zQ]; rfl)) ?_; (with_reducible refine (impl_isPrec.calls a0_0 true _ A4.out).mono ?_); rintro e w' ⟨rfl, ⟨nd, rfl⟩⟩; refine ⟨_, rfl, ?_⟩) | (go_at_call 53; (with_reducible refine (impl_within.calls a0_1 1 256 false _ A6.out).mono ?_); rintro e w' ⟨rfl, ⟨nd, rfl⟩⟩))
    go_meet
    case rel => exact ⟨_, (true), (by first | rfl | (simp; done) | (simp [*]; done)), H', ⟨by first | omega | exact Nat.le_refl _⟩, ⟨by (with_reducible repeat (first | refine zG ?_ _ | refine zH ?_ | refine zD ?_ _)); exact BK1263.out⟩, ⟨by repeat (first | (with_reducible first | exact HB.out | apply zC | apply zB | apply zF | refine zE ?_ GE1263.out) | exact HB.out)⟩⟩
  ·replace c5 := Bool.eq_false_iff.mpr c5
   subst c5
   have H1 : (impl_PictureOk.j0 k true a0_0 a0_1 a0_2 l0_3) = some r := by rw [if_neg (show ¬ (false = true) by decide)] at H; exact H
   clear H
   have H := H1
   clear H1
   have H' := zA H
   clear H
   have hcz16_0 : w3.cell? ⟨gb1263, 0, none⟩ = some (.int .i64 a0_0) := (zK BK1263.out 0).trans rfl
   have hcz16_1 : w3.cell? ⟨gb1263, 1, none⟩ = some (.int .i64 a0_1) := (zK BK1263.out 1).trans rfl
   have hcz16_2 : w3.cell? ⟨gb1263, 2, none⟩ = some (.int .i64 a0_2) := (zK BK1263.out 2).trans rfl
   have hcz16_3 : w3.cell? ⟨gb1263, 3, none⟩ = some (.slice A0_3 l0_3.length c0_3) := (zK BK1263.out 3).trans rfl
   have hfz16_0 := zJ BK1263.out 0
   have hfz16_1 := zJ BK1263.out 1
   have hfz16_2 := zJ BK1263.out 2
   have hfz16_3 := zJ BK1263.out 3
   go_wp2_with (first | ((with_reducible refine gate_callee (f := 138) rfl ?_); refine goesL_ (some 7) rfl rfl Try.func138 (by kernel_rfl) rfl #[.int .i64 a0_0] rfl (by (try simp only [zU, zV, zW]); first | done | rfl | (simp only [zR, zQ]; rfl)) ?_; (with_reducible refine (impl_isPrec.calls a0_0 false _ A4.out).mono ?_); rintro e w' ⟨rfl, ⟨nd, rfl⟩⟩; refine ⟨_, rfl, ?_⟩))
   go_meet
   case rel => exact ⟨_, (true), (by first | rfl | (simp; done) | (simp [*]; done)), H', ⟨by first | omega | exact Nat.le_refl _⟩, ⟨by (with_reducible repeat (first | refine zG ?_ _ | refine zH ?_ | refine zD ?_ _)); exact BK1263.out⟩, ⟨by repeat (first | (with_reducible first | exact HB.out | apply zC | apply zB | apply zF | refine zE ?_ GE1263.out) | exact HB.out)⟩⟩
 case rest =>
  clear HC2
  obtain ⟨kq, x35_1, rfl, HA, HJ1, BK1263, HB⟩ := hcut
  cases kq with
  | zero => exact absurd HA.out (by simp [impl_PictureOk.j0])
  | succ kj1 =>
   have H := HA.out
   clear HA
   simp only [impl_PictureOk.j0] at H
   by_cases c17 : x35_1 = true
   ·subst c17
    have H1 : (some false) = some r := by rw [if_pos rfl] at H; exact H
    clear H
    have H := H1
    clear H1
    obtain rfl := Option.some.inj H
    go_wp2
    go_ret
    exact ⟨by first | rfl | (simp [errW_none, errW_some] <;> rfl) | (simp [*, errW_none, errW_some] <;> rfl), by repeat (first | (with_reducible first | exact HB.out | apply zC | apply zB | apply zF | refine zE ?_ GE1263.out) | exact HB.out)⟩
   ·replace c17 := Bool.eq_false_iff.mpr c17
    subst c17
    have H1 : (impl_PictureOk.l0 kj1 l0_3 (l0_3.length : Int) 0 a0_0 a0_1 a0_2 l0_3) = some r := by rw [if_neg (show ¬ (false = true) by decide)] at H; exact H
    clear H
    have H := H1
    clear H1
    have H' := zA H
    clear H
    have hcz18_0 : wc.cell? ⟨gb1263, 0, none⟩ = some (.int .i64 a0_0) := (zK BK1263.out 0).trans rfl
    have hcz18_1 : wc.cell? ⟨gb1263, 1, none⟩ = some (.int .i64 a0_1) := (zK BK1263.out 1).trans rfl
    have hcz18_2 : wc.cell? ⟨gb1263, 2, none⟩ = some (.int .i64 a0_2) := (zK BK1263.out 2).trans rfl
    have hcz18_3 : wc.cell? ⟨gb1263, 3, none⟩ = some (.slice A0_3 l0_3.length c0_3) := (zK BK1263.out 3).trans rfl
    have hfz18_0 := zJ BK1263.out 0
    have hfz18_1 := zJ BK1263.out 1
    have hfz18_2 := zJ BK1263.out 2
    have hfz18_3 := zJ BK1263.out 3
    go_wp2
    go_loopg [39] kj1 (fun kq v39 w' => ∃ (x39_2 : Int), v39 = .int .i64 x39_2 ∧ Aside0 (impl_PictureOk.l0 kq l0_3 (l0_3.length : Int) x39_2 a0_0 a0_1 a0_2 l0_3 = some r) ∧ Aside0 (kq ≤ kj1) ∧ Aside0 (w'.heap[gb1263]? = some (.cells #[.int .i64 a0_0, .int .i64 a0_1, .int .i64 a0_2, (.slice A0_3 l0_3.length c0_3)] 81 (0, 0))) ∧ Aside0 (Below w.heap.size w w'))
    case atStart => exact ⟨(0), (by first | rfl | (simp; done) | (simp [*]; done)), H', ⟨Nat.le_refl _⟩, ⟨by (with_reducible repeat (first | refine zG ?_ _ | refine zH ?_ | refine zD ?_ _)); exact BK1263.out⟩, ⟨by repeat (first | (with_reducible first | exact HB.out | apply zC | apply zB | apply zF | refine zE ?_ GE1263.out) | exact HB.out)⟩⟩
    case round =>
     clear H'
     try clear hcz18_0
     try clear hcz18_1
     try clear hcz18_2
     try clear hcz18_3
     try clear hfz18_0
     try clear hfz18_1
     try clear hfz18_2
     try clear hfz18_3
     obtain ⟨x39_2, rfl, HA, HK2, BK1263, HB⟩ := hrel
     cases gk with
     | zero => exact absurd HA.out (by simp [impl_PictureOk.l0])
     | succ k2 =>
      have H := HA.out
      clear HA
      simp only [impl_PictureOk.l0] at H
      by_cases c19 : x39_2 < (l0_3.length : Int)
      ·rw [if_pos c19] at H
       have c19b0 : decide (x39_2 < (l0_3.length : Int)) = true := zT c19
       clear c19
       by_cases c20 : 0 ≤ x39_2
       ·rw [if_pos c20] at H
        have c20b0 : decide (0 ≤ x39_2) = true := zT c20
        clear c20
        by_cases c21 : x39_2 < (l0_3.length : Int)
        ·rw [if_pos c21] at H
         have c21b0 : decide (x39_2 < (l0_3.length : Int)) = true := zT c21
         clear c21
         by_cases c22 : ((rd_L3 l0_3 x39_2).length : Int) = (wrap64 (a0_1 * a0_2))
         ·rw [if_pos c22] at H
          have c22b0 : (((rd_L3 l0_3 x39_2).length : Int) == (wrap64 (a0_1 * a0_2))) = true := beq_iff_eq.mpr c22
          have c22b1 : (((rd_L3 l0_3 x39_2).length : Int) != (wrap64 (a0_1 * a0_2))) = false := bne_eq_false_iff_eq.mpr c22
          clear c22
          by_cases c23 : 0 ≤ a0_0
          ·rw [if_pos c23] at H
           have c23b0 := eq_true c23
           have c23b1 : decide (0 ≤ a0_0) = true := zT c23
           clear c23
           obtain ⟨ji24, hji24⟩ : ∃ j_ : Int, (shl .i64 1 a0_0) = j_ := ⟨_, rfl⟩
           replace H : ((impl_allWithin.f k2 (rd_L3 l0_3 x39_2) 0 (wrap64 ((ji24) - 1))).bind fun t1269 => (if t1269 = true then (impl_PictureOk.l0 k2 l0_3 (l0_3.length : Int) (wrap64 (x39_2 + 1)) a0_0 a0_1 a0_2 l0_3) else (some false))) = some r := by first | (rw [hji24] at H; exact H) | (simp only [hji24] at H ⊢; exact H)
           have hji24_ : (IntKind.i64.wrap (1 * 2 ^ min a0_0.toNat 64)) = ji24 := hji24
           have hji24z : a0_0 ≤ 64 → (IntKind.i64.wrap (1 * 2 ^ a0_0.toNat)) = ji24 := shl_small hji24
           have hji24u : (IntKind.i64.wrap (2 ^ min a0_0.toNat 64)) = ji24 := by have h_ := hji24_; rw [Int.one_mul] at h_; exact h_
           have hji24v : a0_0 ≤ 64 → (IntKind.i64.wrap (2 ^ a0_0.toNat)) = ji24 := fun hle_ => by have h_ := hji24z hle_; rw [Int.one_mul] at h_; exact h_
           have hji24y : (wrap64 (1 * 2 ^ min a0_0.toNat 64)) = ji24 := (i64_w _).symm.trans hji24_
           have hji24x : a0_0 ≤ 64 → (wrap64 (1 * 2 ^ a0_0.toNat)) = ji24 := fun h_ => (i64_w _).symm.trans (hji24z h_)
           replace H := Option.bind_eq_some_iff.mp H
           obtain ⟨t1269, A250, H⟩ := H
           replace H : (if t1269 = true then (impl_PictureOk.l0 k2 l0_3 (l0_3.length : Int) (wrap64 (x39_2 + 1)) a0_0 a0_1 a0_2 l0_3) else (some false)) = some r := H
           have A25 := zA A250
           clear A250
           by_cases c26 : t1269 = true
           ·subst c26
            have H1 : (impl_PictureOk.l0 k2 l0_3 (l0_3.length : Int) (wrap64 (x39_2 + 1)) a0_0 a0_1 a0_2 l0_3) = some r := by rw [if_pos rfl] at H; exact H
            clear H
            have H := H1
            clear H1
            have H' := zA H
            clear H
            have p1268 : 0 ≤ (x39_2 : Int) := zI (by first | (with_reducible assumption) | assumption)
            have q1268 : x39_2 < (l0_3.length : Int) := zI (by first | (with_reducible assumption) | assumption)
            obtain ⟨ad1268, A1268_0, c1268_0, e1268, hx1268_0, hl1268_0, hi1268_0⟩ := at_L3 HR0_3.out x39_2 p1268 q1268
            cases e1268
            replace hx1268_0 := (HB.out.cell (World.block_lt_of_cell? w _ hx1268_0)).trans hx1268_0
            have HR1268_0 := zA hi1268_0
            have HC1268_0 := zA hl1268_0
            clear hi1268_0 hl1268_0
            replace p1268 := eq_true p1268
            replace q1268 := eq_true q1268
            have hcz27_0 : wr.cell? ⟨gb1263, 0, none⟩ = some (.int .i64 a0_0) := (zK BK1263.out 0).trans rfl
            have hcz27_1 : wr.cell? ⟨gb1263, 1, none⟩ = some (.int .i64 a0_1) := (zK BK1263.out 1).trans rfl
            have hcz27_2 : wr.cell? ⟨gb1263, 2, none⟩ = some (.int .i64 a0_2) := (zK BK1263.out 2).trans rfl
            have hcz27_3 : wr.cell? ⟨gb1263, 3, none⟩ = some (.slice (some ad1268) l0_3.length c0_3) := (zK BK1263.out 3).trans rfl
            have hfz27_0 := zJ BK1263.out 0
            have hfz27_1 := zJ BK1263.out 1
            have hfz27_2 := zJ BK1263.out 2
            have hfz27_3 := zJ BK1263.out 3
            go_wp2_with (first | (go_at_call 75; (with_reducible refine (impl_allWithin.calls k2 _ _ (rd_L3 l0_3 x39_2) 0 (wrap64 ((ji24) - 1)) true _ ?side1 ?side2 A25.out).mono ?_); (case side1 => repeat (first | exact (Kd.C_below HR1268_0.out HB.out) | (with_reducible refine yH ?_ _) | (with_reducible refine yF ?_ _) | (with_reducible refine yG ?_))); (case side2 => exact HC1268_0.out); rintro e w' ⟨rfl, ⟨nd, rfl⟩⟩))
            go_roundg k2
            case measure => have := HJ1.out; have := HK2.out; omega
            case rel => exact ⟨(wrap64 (x39_2 + 1)), (by first | rfl | (simp; done) | (simp [*]; done)), H', ⟨by have := HJ1.out; have := HK2.out; omega⟩, ⟨by (with_reducible repeat (first | refine zG ?_ _ | refine zH ?_ | refine zD ?_ _)); exact BK1263.out⟩, ⟨by repeat (first | (with_reducible first | exact HB.out | apply zC | apply zB | apply zF | refine zE ?_ GE1263.out) | exact HB.out)⟩⟩
           ·replace c26 := Bool.eq_false_iff.mpr c26
            subst c26
            have H1 : (some false) = some r := by rw [if_neg (show ¬ (false = true) by decide)] at H; exact H
            clear H
            have H := H1
            clear H1
            obtain rfl := Option.some.inj H
            have p1268 : 0 ≤ (x39_2 : Int) := zI (by first | (with_reducible assumption) | assumption)
            have q1268 : x39_2 < (l0_3.length : Int) := zI (by first | (with_reducible assumption) | assumption)
            obtain ⟨ad1268, A1268_0, c1268_0, e1268, hx1268_0, hl1268_0, hi1268_0⟩ := at_L3 HR0_3.out x39_2 p1268 q1268
            cases e1268
            replace hx1268_0 := (HB.out.cell (World.block_lt_of_cell? w _ hx1268_0)).trans hx1268_0
            have HR1268_0 := zA hi1268_0
            have HC1268_0 := zA hl1268_0
            clear hi1268_0 hl1268_0
            replace p1268 := eq_true p1268
            replace q1268 := eq_true q1268
            have hcz28_0 : wr.cell? ⟨gb1263, 0, none⟩ = some (.int .i64 a0_0) := (zK BK1263.out 0).trans rfl
            have hcz28_1 : wr.cell? ⟨gb1263, 1, none⟩ = some (.int .i64 a0_1) := (zK BK1263.out 1).trans rfl
            have hcz28_2 : wr.cell? ⟨gb1263, 2, none⟩ = some (.int .i64 a0_2) := (zK BK1263.out 2).trans rfl
            have hcz28_3 : wr.cell? ⟨gb1263, 3, none⟩ = some (.slice (some ad1268) l0_3.length c0_3) := (zK BK1263.out 3).trans rfl
            have hfz28_0 := zJ BK1263.out 0
            have hfz28_1 := zJ BK1263.out 1
            have hfz28_2 := zJ BK1263.out 2
            have hfz28_3 := zJ BK1263.out 3
            go_wp2_with (first | (go_at_call 75; (with_reducible refine (impl_allWithin.calls k2 _ _ (rd_L3 l0_3 x39_2) 0 (wrap64 ((ji24) - 1)) false _ ?side1 ?side2 A25.out).mono ?_); (case side1 => repeat (first | exact (Kd.C_below HR1268_0.out HB.out) | (with_reducible refine yH ?_ _) | (with_reducible refine yF ?_ _) | (with_reducible refine yG ?_))); (case side2 => exact HC1268_0.out); rintro e w' ⟨rfl, ⟨nd, rfl⟩⟩))
            go_ret
            exact ⟨by first | rfl | (simp [errW_none, errW_some] <;> rfl) | (simp only [← hji24]; first | rfl | (simp [errW_none, errW_some] <;> rfl)) | (simp [*, errW_none, errW_some] <;> rfl), by repeat (first | (with_reducible first | exact HB.out | apply zC | apply zB | apply zF | refine zE ?_ GE1263.out) | exact HB.out)⟩
          ·rw [if_neg c23] at H
           exact absurd H (by simp)
         ·rw [if_neg c22] at H
          have c22b0 : (((rd_L3 l0_3 x39_2).length : Int) == (wrap64 (a0_1 * a0_2))) = false := beq_eq_false_iff_ne.mpr c22
          have c22b1 : (((rd_L3 l0_3 x39_2).length : Int) != (wrap64 (a0_1 * a0_2))) = true := bne_iff_ne.mpr c22
          obtain rfl := Option.some.inj H
          have p1268 : 0 ≤ (x39_2 : Int) := zI (by first | (with_reducible assumption) | assumption)
          have q1268 : x39_2 < (l0_3.length : Int) := zI (by first | (with_reducible assumption) | assumption)
          obtain ⟨ad1268, A1268_0, c1268_0, e1268, hx1268_0, hl1268_0, hi1268_0⟩ := at_L3 HR0_3.out x39_2 p1268 q1268
          cases e1268
          replace hx1268_0 := (HB.out.cell (World.block_lt_of_cell? w _ hx1268_0)).trans hx1268_0
          have HR1268_0 := zA hi1268_0
          have HC1268_0 := zA hl1268_0
          clear hi1268_0 hl1268_0
          replace p1268 := eq_true p1268
          replace q1268 := eq_true q1268
          have hcz29_0 : wr.cell? ⟨gb1263, 0, none⟩ = some (.int .i64 a0_0) := (zK BK1263.out 0).trans rfl
          have hcz29_1 : wr.cell? ⟨gb1263, 1, none⟩ = some (.int .i64 a0_1) := (zK BK1263.out 1).trans rfl
          have hcz29_2 : wr.cell? ⟨gb1263, 2, none⟩ = some (.int .i64 a0_2) := (zK BK1263.out 2).trans rfl
          have hcz29_3 : wr.cell? ⟨gb1263, 3, none⟩ = some (.slice (some ad1268) l0_3.length c0_3) := (zK BK1263.out 3).trans rfl
          have hfz29_0 := zJ BK1263.out 0
          have hfz29_1 := zJ BK1263.out 1
          have hfz29_2 := zJ BK1263.out 2
          have hfz29_3 := zJ BK1263.out 3
          go_wp2
          go_ret
          exact ⟨by first | rfl | (simp [errW_none, errW_some] <;> rfl) | (simp [*, errW_none, errW_some] <;> rfl), by repeat (first | (with_reducible first | exact HB.out | apply zC | apply zB | apply zF | refine zE ?_ GE1263.out) | exact HB.out)⟩
        ·rw [if_neg c21] at H
         exact absurd H (by simp)
       ·rw [if_neg c20] at H
        exact absurd H (by simp)
      ·rw [if_neg c19] at H
       have c19b0 : decide (x39_2 < (l0_3.length : Int)) = false := decide_eq_false c19
       clear c19
       obtain rfl := Option.some.inj H
       go_wp2
       go_ret
       exact ⟨by first | rfl | (simp [errW_none, errW_some] <;> rfl) | (simp [*, errW_none, errW_some] <;> rfl), by repeat (first | (with_reducible first | exact HB.out | apply zC | apply zB | apply zF | refine zE ?_ GE1263.out) | exact HB.out)⟩
theorem impl_PictureOk.l0_ev (p w h : Int) (q : HeadOk p w h) (pl : List (List Int)) (hn : pl.length ≤ 4) :
  ∀ d i : Nat, i + d = pl.length → Ev (fun k => impl_PictureOk.l0 k pl (pl.length : Int) (i : Int) p w h pl) (rowsIn (w * h) (topOf p) (pl.drop i)) := by
 have h1 := q.a1
 have h2 := q.a2
 intro d
 induction d with
 | zero =>
  intro i hi
  refine Ev.step (fun _ => by rw [impl_PictureOk.l0]) (Ev.ng (by omega) (Ev.eq (Ev.now _) ?_))
  rw [show i = pl.length by omega, List.drop_length]; rfl
 | succ d ih =>
  intro i hi
  have hlt : i < pl.length := by omega
  refine Ev.step (fun _ => by rw [impl_PictureOk.l0]) (Ev.ip (by omega) (Ev.ip (by omega) (Ev.ip (by omega) ?_)))
  rw [rdL_nat pl i hlt, wrap_in (w * h) (by omega) (by omega), List.drop_eq_getElem_cons hlt]
  by_cases hw : (pl[i].length : Int) = w * h
  ·refine Ev.ip hw (Ev.ip q.p0 ?_)
   obtain ⟨k, hk⟩ := impl_allWithin.ev 0 (topOf p) pl[i] (by omega)
   refine Ev.bind (Ev.of (impl_allWithin.mono pl[i] 0 (topOf p)) hk) ?_
   by_cases ha : allW 0 (topOf p) pl[i] = true
   ·refine Ev.ip ha ?_
    rw [wrap_succ i (by omega)]
    refine Ev.eq (ih (i + 1) (by omega)) ?_
    rw [rowsIn, rowsIn, List.all_cons, zT hw, ha]; rfl
   ·refine Ev.ng ha (Ev.eq (Ev.now _) ?_)
    rw [rowsIn, List.all_cons, Bool.eq_false_iff.2 ha, Bool.and_false, Bool.false_and]
  ·refine Ev.ng hw (Ev.eq (Ev.now _) ?_)
   rw [rowsIn, List.all_cons, decide_eq_false hw, Bool.false_and, Bool.false_and]
theorem impl_PictureOk.j0_ev (p w h : Int) (b : Bool) (pl : List (List Int)) (hb : b = false → HeadOk p w h ∧ pl.length ≤ 4) : Ev (fun k => impl_PictureOk.j0 k b p w h pl) (!b && rowsIn (w * h) (topOf p) pl) := by
 refine Ev.step (fun _ => by rw [impl_PictureOk.j0]) ?_
 cases b with
 | true => exact Ev.ip rfl (Ev.now _)
 | false =>
  obtain ⟨h1, h2⟩ := hb rfl
  exact Ev.ng (by simp) (impl_PictureOk.l0_ev p w h h1 pl h2 pl.length 0 (Nat.zero_add _))
theorem impl_PictureOk.ev (p w h : Int) (pl : List (List Int)) : Ev (fun k => impl_PictureOk.f k p w h pl) (picOkM p w h pl) := by
 unfold impl_PictureOk.f
 have no : headOk p w h = false → picOkM p w h pl = (!true && rowsIn (w * h) (topOf p) pl) := fun e => by rw [picOkM, e]; rfl
 have bad := impl_PictureOk.j0_ev p w h true pl (fun e => by cases e)
 refine Ev.bind (Ev.c (show impl_isPrec.f p = some (decide (p = 8) || decide (p = 12)) by
  unfold impl_isPrec.f
  by_cases h8 : p = 8
  ·rw [if_pos h8, zT h8, Bool.true_or]
  ·rw [if_neg h8, decide_eq_false h8, Bool.false_or]; rfl)) ?_
 by_cases hp : (decide (p = 8) || decide (p = 12)) = true
 ·refine Ev.ip hp (Ev.bind (Ev.c (impl_within.val _ _ _)) ?_)
  by_cases h1 : (decide (1 ≤ w) && decide (w ≤ 256)) = true
  ·refine Ev.ip h1 (Ev.bind (Ev.c (impl_within.val _ _ _)) ?_)
   by_cases h2 : (decide (1 ≤ h) && decide (h ≤ 256)) = true
   ·refine Ev.ip h2 ?_
    have g1 := h1
    have g2 := h2
    simp only [Bool.and_eq_true, decide_eq_true_eq] at g1 g2
    have hm := mul_256 w h g1.1 g1.2 g2.1 g2.2
    rw [wrap_in (w * h) (by omega) (by omega)]
    by_cases h3 : w * h ≤ 16384
    ·refine Ev.ng (by omega) (Ev.bind (Ev.c (impl_within.val _ _ _)) ?_)
     have hh : headOk p w h = true := by
      unfold headOk
      rw [h1, h2, zT h3, hp]; rfl
     refine Ev.eq (impl_PictureOk.j0_ev p w h _ pl (fun e => ⟨headOk_of hh, ?_⟩)) ?_
     ·simp only [Bool.not_eq_false', Bool.and_eq_true, decide_eq_true_eq] at e
      omega
     ·rw [picOkM, hh, Bool.not_not, Bool.true_and]
      congr 2
      ·rw [decide_eq_decide]; omega
      ·rw [decide_eq_decide]; omega
    ·refine Ev.ip (by omega) (Ev.eq bad (no ?_).symm)
     unfold headOk
     rw [decide_eq_false h3, Bool.and_false]
   ·refine Ev.ng h2 (Ev.eq bad (no ?_).symm)
    unfold headOk
    rw [Bool.eq_false_iff.2 h2, Bool.and_false, Bool.and_false, Bool.false_and]
  ·refine Ev.ng h1 (Ev.eq bad (no ?_).symm)
   unfold headOk
   rw [Bool.eq_false_iff.2 h1, Bool.false_and, Bool.and_false, Bool.false_and]
 ·refine Ev.ng hp (Ev.eq bad (no ?_).symm)
  unfold headOk
  rw [Bool.eq_false_iff.2 hp, Bool.false_and, Bool.false_and]
end Go.Proofs.Ytilimpjcdeeaiaa.G


namespace Go.Proofs.Ytilimpjcdeeaiaa.G
open Go.RowKit Go.Proofs.YtilimpjcdeeaiaaW.PrintWords Go.Proofs.YtilimpjcdeeaiaaW.PrintLast Go.Proofs.YtilimpjcdeeaiaaW.PrintMore
attribute [local go_sem] max2_int min2_int max_two min_two max_three min_three max_four min_four   -- for this text's walks alone
def impl_isEmptyFrom.l0 : Nat → Int → List (List Int) → Int → Int → Int → Int → Int → List (List Int) → Option (Bool)
 | 0, _, _, _, _, _, _, _, _ => none
 | k + 1, x1, x8, x9, x10, x1271000, x1271001, x1271002, x1271003 => if x10 < x9 then (if 0 ≤ x10 then (if x10 < (x8.length : Int) then (if 0 ≤ (wrap64 (x1 * x1271001)) then (if (wrap64 (x1 * x1271001)) ≤ ((rd_L3 x8 x10).length : Int) then ((impl_allWithin.f k ((rd_L3 x8 x10).drop ((wrap64 (x1 * x1271001)) : Int).toNat) 0 0).bind fun t1273 => (if t1273 = true then (impl_isEmptyFrom.l0 k x1 x8 x9 (wrap64 (x10 + 1)) x1271000 x1271001 x1271002 x1271003) else (some false))) else (none)) else (none)) else (none)) else (none)) else (some true)
def impl_isEmptyFrom.f (k : Nat) (a0_0 : Int) (a0_1 : Int) (a0_2 : Int) (l0_3 : List (List Int)) (a1 : Int) : Option (Bool) := impl_isEmptyFrom.l0 k a1 l0_3 (l0_3.length : Int) 0 a0_0 a0_1 a0_2 l0_3
theorem impl_isEmptyFrom.mono_l : ∀ k, (∀ y0 y1 y2 y3 y4 y5 y6 y7, LeO (impl_isEmptyFrom.l0 k y0 y1 y2 y3 y4 y5 y6 y7) (impl_isEmptyFrom.l0 (k + 1) y0 y1 y2 y3 y4 y5 y6 y7))
 | 0 => fun _ _ _ _ _ _ _ _ r h => by simp [impl_isEmptyFrom.l0] at h
 | k + 1 => by
  have ih0 := impl_isEmptyFrom.mono_l k
  ·intro y0 y1 y2 y3 y4 y5 y6 y7
   unfold impl_isEmptyFrom.l0
   repeat' first
   | (with_reducible exact ih0 _ _ _ _ _ _ _ _)
   | (with_reducible exact impl_allWithin.mono _ _ _ _)
   | (with_reducible exact LeO.refl _)
   | (with_reducible exact LeO.none _)
   | (with_reducible refine LeO.ite ?_ ?_)
   | (with_reducible refine LeO.bind ?_ (fun _ => ?_))
   | exact ih0 _ _ _ _ _ _ _ _
   | exact impl_allWithin.mono _ _ _ _
   | exact LeO.none _
   | refine LeO.ite ?_ ?_
   | refine LeO.bind ?_ (fun _ => ?_)
theorem impl_isEmptyFrom.mono : ∀ a0 a1 a2 a3 a4 k, LeO (impl_isEmptyFrom.f k a0 a1 a2 a3 a4) (impl_isEmptyFrom.f (k + 1) a0 a1 a2 a3 a4) := by
 intro a0 a1 a2 a3 a4 k
 have ih0 := impl_isEmptyFrom.mono_l k
 unfold impl_isEmptyFrom.f
 repeat' first
   | (with_reducible exact ih0 _ _ _ _ _ _ _ _)
   | (with_reducible exact impl_allWithin.mono _ _ _ _)
   | (with_reducible exact LeO.refl _)
   | (with_reducible exact LeO.none _)
   | (with_reducible refine LeO.ite ?_ ?_)
   | (with_reducible refine LeO.bind ?_ (fun _ => ?_))
   | exact ih0 _ _ _ _ _ _ _ _
   | exact impl_allWithin.mono _ _ _ _
   | exact LeO.none _
   | refine LeO.ite ?_ ?_
   | refine LeO.bind ?_ (fun _ => ?_)
set_option maxHeartbeats 8000000 in
set_option maxRecDepth 100000 in
theorem impl_isEmptyFrom.calls (k : Nat) (a0_0 : Int) (a0_1 : Int) (a0_2 : Int) (A0_3 : Option Addr) (c0_3 : Nat) (l0_3 : List (List Int)) (a1 : Int) (r : Bool) (w : World) (hr0_3 : Kd.C (Kd.slice 3 (Kd.int .i64)) w A0_3 l0_3.length l0_3) (hc0_3 : l0_3.length ≤ c0_3) (h : impl_isEmptyFrom.f k a0_0 a0_1 a0_2 l0_3 a1 = some r) :
  Calls Try.prog 101 #[.agg #[.int .i64 a0_0, .int .i64 a0_1, .int .i64 a0_2, .slice A0_3 l0_3.length c0_3], .int .i64 a1] w fun e w' => e = .returned (.bool r) ∧ Below w.heap.size w w' := by
 have hu81 := Try.underlying81
 have HR0_3 := zA hr0_3
 have HC0_3 := zA hc0_3
 clear hr0_3 hc0_3
 have HB := zA (Below.refl w.heap.size w)
 have H : (impl_isEmptyFrom.l0 k a1 l0_3 (l0_3.length : Int) 0 a0_0 a0_1 a0_2 l0_3) = some r := h
 clear h
 have H' := zA H
 clear H
 go_enter Try.func101, Try.ntmps101
 go_wp2_with (first | ((with_reducible refine gate_dst (N := 2) rfl ?_); refine box_event ?hg (N := 2) ?hd (cs := #[.int .i64 a0_0, .int .i64 a0_1, .int .i64 a0_2, .slice A0_3 l0_3.length c0_3]) (t := 81) ?hr ?_; (case hd => rfl); (case hg => rfl); (case hr => first | (go_simp; done) | (go_simp; rfl)); intro gb1270 hg w3 hbox hb; have n0_ := zA (below_step (by repeat (first | (with_reducible first | exact HB.out | apply zC | apply zB | apply zF) | exact HB.out)) hb); have n1_ := zA (hbox); have n2_ := zA ((by rw [hg]; exact (zL (by repeat (first | (with_reducible first | exact HB.out | apply zC | apply zB | apply zF) | exact HB.out))) : w.heap.size ≤ gb1270)); have n3_ := zA ((by rw [hg]; exact (zL (by repeat (first | (with_reducible first | exact HB.out | apply zC | apply zB | apply zF) | exact HB.out))) : w.heap.size ≤ gb1270)); clear HB; have HB := n0_; have BK1270 := n1_; have GW1270 := n2_; have GE1270 := n3_; clear n0_ n1_ n2_ n3_; clear hb hbox hg; have hcz4_0 : w3.cell? ⟨gb1270, 0, none⟩ = some (.int .i64 a0_0) := (zK BK1270.out 0).trans rfl; have hcz4_1 : w3.cell? ⟨gb1270, 1, none⟩ = some (.int .i64 a0_1) := (zK BK1270.out 1).trans rfl; have hcz4_2 : w3.cell? ⟨gb1270, 2, none⟩ = some (.int .i64 a0_2) := (zK BK1270.out 2).trans rfl; have hcz4_3 : w3.cell? ⟨gb1270, 3, none⟩ = some (.slice A0_3 l0_3.length c0_3) := (zK BK1270.out 3).trans rfl; have hfz4_0 := zJ BK1270.out 0; have hfz4_1 := zJ BK1270.out 1; have hfz4_2 := zJ BK1270.out 2; have hfz4_3 := zJ BK1270.out 3))
 go_loopg [10] k (fun kq v10 w' => ∃ (x10_1 : Int), v10 = .int .i64 x10_1 ∧ Aside0 (impl_isEmptyFrom.l0 kq a1 l0_3 (l0_3.length : Int) x10_1 a0_0 a0_1 a0_2 l0_3 = some r) ∧ Aside0 (kq ≤ k) ∧ Aside0 (w'.heap[gb1270]? = some (.cells #[.int .i64 a0_0, .int .i64 a0_1, .int .i64 a0_2, (.slice A0_3 l0_3.length c0_3)] 81 (0, 0))) ∧ Aside0 (Below w.heap.size w w'))
 case atStart => exact ⟨(0), (by first | rfl | (simp; done) | (simp [*]; done)), H', ⟨Nat.le_refl _⟩, ⟨by (with_reducible repeat (first | refine zG ?_ _ | refine zH ?_ | refine zD ?_ _)); exact BK1270.out⟩, ⟨by repeat (first | (with_reducible first | exact HB.out | apply zC | apply zB | apply zF | refine zE ?_ GE1270.out) | exact HB.out)⟩⟩
 case round =>
  clear H'
  try clear c1
  try clear p2
  try clear hcz4_0
  try clear hcz4_1
  try clear hcz4_2
  try clear hcz4_3
  try clear hfz4_0
  try clear hfz4_1
  try clear hfz4_2
  try clear hfz4_3
  obtain ⟨x10_1, rfl, HA, HK1, BK1270, HB⟩ := hrel
  cases gk with
  | zero => exact absurd HA.out (by simp [impl_isEmptyFrom.l0])
  | succ k1 =>
   have H := HA.out
   clear HA
   simp only [impl_isEmptyFrom.l0] at H
   by_cases c5 : x10_1 < (l0_3.length : Int)
   ·rw [if_pos c5] at H
    have c5b0 : decide (x10_1 < (l0_3.length : Int)) = true := zT c5
    clear c5
    by_cases c6 : 0 ≤ x10_1
    ·rw [if_pos c6] at H
     have c6b0 : decide (0 ≤ x10_1) = true := zT c6
     clear c6
     by_cases c7 : x10_1 < (l0_3.length : Int)
     ·rw [if_pos c7] at H
      have c7b0 : decide (x10_1 < (l0_3.length : Int)) = true := zT c7
      clear c7
      obtain ⟨ji8, hji8⟩ : ∃ j_ : Int, (wrap64 (a1 * a0_1)) = j_ := ⟨_, rfl⟩
      replace H : (if 0 ≤ (ji8) then (if (ji8) ≤ ((rd_L3 l0_3 x10_1).length : Int) then ((impl_allWithin.f k1 ((rd_L3 l0_3 x10_1).drop ((ji8) : Int).toNat) 0 0).bind fun t1273 => (if t1273 = true then (impl_isEmptyFrom.l0 k1 a1 l0_3 (l0_3.length : Int) (wrap64 (x10_1 + 1)) a0_0 a0_1 a0_2 l0_3) else (some false))) else (none)) else (none)) = some r := by first | (rw [hji8] at H; exact H) | (simp only [hji8] at H ⊢; exact H)
      have hji8w : (IntKind.i64.wrap (a1 * a0_1)) = ji8 := (i64_w _).trans hji8
      by_cases c9 : 0 ≤ (ji8)
      ·rw [if_pos c9] at H
       have c9b0 := eq_true c9
       have c9b1 : decide (0 ≤ (ji8)) = true := zT c9
       clear c9
       by_cases c10 : (ji8) ≤ ((rd_L3 l0_3 x10_1).length : Int)
       ·rw [if_pos c10] at H
        have c10b0 := eq_true c10
        have c10b1 : decide ((ji8) ≤ ((rd_L3 l0_3 x10_1).length : Int)) = true := zT c10
        clear c10
        replace H := Option.bind_eq_some_iff.mp H
        obtain ⟨t1273, A110, H⟩ := H
        replace H : (if t1273 = true then (impl_isEmptyFrom.l0 k1 a1 l0_3 (l0_3.length : Int) (wrap64 (x10_1 + 1)) a0_0 a0_1 a0_2 l0_3) else (some false)) = some r := H
        have A11 := zA A110
        clear A110
        by_cases c12 : t1273 = true
        ·subst c12
         have H1 : (impl_isEmptyFrom.l0 k1 a1 l0_3 (l0_3.length : Int) (wrap64 (x10_1 + 1)) a0_0 a0_1 a0_2 l0_3) = some r := by rw [if_pos rfl] at H; exact H
         clear H
         have H := H1
         clear H1
         have H' := zA H
         clear H
         have p1271 : 0 ≤ (x10_1 : Int) := zI (by first | (with_reducible assumption) | assumption)
         have q1271 : x10_1 < (l0_3.length : Int) := zI (by first | (with_reducible assumption) | assumption)
         obtain ⟨ad1271, A1271_0, c1271_0, e1271, hx1271_0, hl1271_0, hi1271_0⟩ := at_L3 HR0_3.out x10_1 p1271 q1271
         cases e1271
         replace hx1271_0 := (HB.out.cell (World.block_lt_of_cell? w _ hx1271_0)).trans hx1271_0
         have HR1271_0 := zA hi1271_0
         have HC1271_0 := zA hl1271_0
         clear hi1271_0 hl1271_0
         replace p1271 := eq_true p1271
         replace q1271 := eq_true q1271
         have hcz13_0 : wr.cell? ⟨gb1270, 0, none⟩ = some (.int .i64 a0_0) := (zK BK1270.out 0).trans rfl
         have hcz13_1 : wr.cell? ⟨gb1270, 1, none⟩ = some (.int .i64 a0_1) := (zK BK1270.out 1).trans rfl
         have hcz13_2 : wr.cell? ⟨gb1270, 2, none⟩ = some (.int .i64 a0_2) := (zK BK1270.out 2).trans rfl
         have hcz13_3 : wr.cell? ⟨gb1270, 3, none⟩ = some (.slice (some ad1271) l0_3.length c0_3) := (zK BK1270.out 3).trans rfl
         have hfz13_0 := zJ BK1270.out 0
         have hfz13_1 := zJ BK1270.out 1
         have hfz13_2 := zJ BK1270.out 2
         have hfz13_3 := zJ BK1270.out 3
         obtain ⟨i014, hi014, _, hsz14, _⟩ := info_parts info3
         obtain ⟨A14, hcut14, hA14, hC14⟩ := print_drop_of (P := Try.prog) (Value.int .i64) 0 36 3 .i64 Try.underlying36 hi014 hsz14 A1271_0 c1271_0 (rd_L3 l0_3 x10_1) (ji8) (zI (by first | (with_reducible assumption) | assumption)) (zI (by first | (with_reducible assumption) | assumption)) HC1271_0.out
         have HR1272 := zA (Kd.C_of_reads (h1 := fun _ => rfl) (hA14 _ (Kd.reads_of_C HR1271_0.out)))
         have HC1272 := zA hC14
         clear hA14 hC14 hi014 hsz14
         go_wp2_with (first | ((with_reducible refine gate_callee (f := 75) rfl ?_); refine goesL_ (some 20) rfl rfl Try.func75 (by kernel_rfl) rfl #[.slice A14 ((rd_L3 l0_3 x10_1).drop ((ji8) : Int).toNat).length (c1271_0 - (ji8).toNat), .int .i64 0, .int .i64 0] rfl (by (try simp only [zU, zV, zW]); first | done | (rw [show ((rd_L3 l0_3 x10_1).drop ((ji8) : Int).toNat).length = ((rd_L3 l0_3 x10_1).length - (ji8).toNat) from zR] <;> rfl) | (simp only [hji8]; rfl) | rfl | (simp only [zR, zQ]; rfl)) ?_; (with_reducible refine (impl_allWithin.calls k1 _ _ ((rd_L3 l0_3 x10_1).drop ((ji8) : Int).toNat) 0 0 true _ ?side1 ?side2 A11.out).mono ?_); (case side1 => repeat (first | exact (Kd.C_below HR1272.out HB.out) | (with_reducible refine yH ?_ _) | (with_reducible refine yF ?_ _) | (with_reducible refine yG ?_))); (case side2 => exact HC1272.out); rintro e w' ⟨rfl, ⟨nd, rfl⟩⟩; refine ⟨_, rfl, ?_⟩))
         go_roundg k1
         case measure => have := HK1.out; omega
         case rel => exact ⟨(wrap64 (x10_1 + 1)), (by first | rfl | (simp; done) | (simp [*]; done)), H', ⟨by have := HK1.out; omega⟩, ⟨by (with_reducible repeat (first | refine zG ?_ _ | refine zH ?_ | refine zD ?_ _)); exact BK1270.out⟩, ⟨by repeat (first | (with_reducible first | exact HB.out | apply zC | apply zB | apply zF | refine zE ?_ GE1270.out) | exact HB.out)⟩⟩
        ·replace c12 := Bool.eq_false_iff.mpr c12
         subst c12
         have H1 : (some false) = some r := by rw [if_neg (show ¬ (false = true) by decide)] at H; exact H
         clear H
         have H := H1
         clear H1
         obtain rfl := Option.some.inj H
         have p1271 : 0 ≤ (x10_1 : Int) := zI (by first | (with_reducible assumption) | assumption)
         have q1271 : x10_1 < (l0_3.length : Int) := zI (by first | (with_reducible assumption) | assumption)
         obtain ⟨ad1271, A1271_0, c1271_0, e1271, hx1271_0, hl1271_0, hi1271_0⟩ := at_L3 HR0_3.out x10_1 p1271 q1271
         cases e1271
         replace hx1271_0 := (HB.out.cell (World.block_lt_of_cell? w _ hx1271_0)).trans hx1271_0
         have HR1271_0 := zA hi1271_0
         have HC1271_0 := zA hl1271_0
         clear hi1271_0 hl1271_0
         replace p1271 := eq_true p1271
         replace q1271 := eq_true q1271
         have hcz15_0 : wr.cell? ⟨gb1270, 0, none⟩ = some (.int .i64 a0_0) := (zK BK1270.out 0).trans rfl
         have hcz15_1 : wr.cell? ⟨gb1270, 1, none⟩ = some (.int .i64 a0_1) := (zK BK1270.out 1).trans rfl
         have hcz15_2 : wr.cell? ⟨gb1270, 2, none⟩ = some (.int .i64 a0_2) := (zK BK1270.out 2).trans rfl
         have hcz15_3 : wr.cell? ⟨gb1270, 3, none⟩ = some (.slice (some ad1271) l0_3.length c0_3) := (zK BK1270.out 3).trans rfl
         have hfz15_0 := zJ BK1270.out 0
         have hfz15_1 := zJ BK1270.out 1
         have hfz15_2 := zJ BK1270.out 2
         have hfz15_3 := zJ BK1270.out 3
         obtain ⟨i016, hi016, _, hsz16, _⟩ := info_parts info3
         obtain ⟨A16, hcut16, hA16, hC16⟩ := print_drop_of (P := Try.prog) (Value.int .i64) 0 36 3 .i64 Try.underlying36 hi016 hsz16 A1271_0 c1271_0 (rd_L3 l0_3 x10_1) (ji8) (zI (by first | (with_reducible assumption) | assumption)) (zI (by first | (with_reducible assumption) | assumption)) HC1271_0.out
         have HR1272 := zA (Kd.C_of_reads (h1 := fun _ => rfl) (hA16 _ (Kd.reads_of_C HR1271_0.out)))
         have HC1272 := zA hC16
         clear hA16 hC16 hi016 hsz16
         go_wp2_with (first | ((with_reducible refine gate_callee (f := 75) rfl ?_); refine goesL_ (some 20) rfl rfl Try.func75 (by kernel_rfl) rfl #[.slice A16 ((rd_L3 l0_3 x10_1).drop ((ji8) : Int).toNat).length (c1271_0 - (ji8).toNat), .int .i64 0, .int .i64 0] rfl (by (try simp only [zU, zV, zW]); first | done | (rw [show ((rd_L3 l0_3 x10_1).drop ((ji8) : Int).toNat).length = ((rd_L3 l0_3 x10_1).length - (ji8).toNat) from zR] <;> rfl) | (simp only [hji8]; rfl) | rfl | (simp only [zR, zQ]; rfl)) ?_; (with_reducible refine (impl_allWithin.calls k1 _ _ ((rd_L3 l0_3 x10_1).drop ((ji8) : Int).toNat) 0 0 false _ ?side1 ?side2 A11.out).mono ?_); (case side1 => repeat (first | exact (Kd.C_below HR1272.out HB.out) | (with_reducible refine yH ?_ _) | (with_reducible refine yF ?_ _) | (with_reducible refine yG ?_))); (case side2 => exact HC1272.out); rintro e w' ⟨rfl, ⟨nd, rfl⟩⟩; refine ⟨_, rfl, ?_⟩))
         go_ret
         exact ⟨by first | rfl | (simp [errW_none, errW_some] <;> rfl) | (simp only [← hji8]; first | rfl | (simp [errW_none, errW_some] <;> rfl)) | (simp [*, errW_none, errW_some] <;> rfl), by repeat (first | (with_reducible first | exact HB.out | apply zC | apply zB | apply zF | refine zE ?_ GE1270.out) | exact HB.out)⟩
       ·rw [if_neg c10] at H
        exact absurd H (by simp)
      ·rw [if_neg c9] at H
       exact absurd H (by simp)
     ·rw [if_neg c7] at H
      exact absurd H (by simp)
    ·rw [if_neg c6] at H
     exact absurd H (by simp)
   ·rw [if_neg c5] at H
    have c5b0 : decide (x10_1 < (l0_3.length : Int)) = false := decide_eq_false c5
    clear c5
    obtain rfl := Option.some.inj H
    go_wp2
    go_ret
    exact ⟨by first | rfl | (simp [errW_none, errW_some] <;> rfl) | (simp [*, errW_none, errW_some] <;> rfl), by repeat (first | (with_reducible first | exact HB.out | apply zC | apply zB | apply zF | refine zE ?_ GE1270.out) | exact HB.out)⟩
theorem impl_isEmptyFrom.ev (p w h row : Int) (pl : List (List Int)) (hw : 0 ≤ row * w) (hq : row * w ≤ 16384) (hn : pl.length ≤ 4) (hx : ∀ x ∈ pl, row * w ≤ (x.length : Int) ∧ x.length ≤ 16384) :
  Ev (fun k => impl_isEmptyFrom.f k p w h pl row) (emptyFrom (row * w) pl) := by
 unfold impl_isEmptyFrom.f
 have key : ∀ d i : Nat, i + d = pl.length → Ev (fun k => impl_isEmptyFrom.l0 k row pl (pl.length : Int) (i : Int) p w h pl) (emptyFrom (row * w) (pl.drop i)) := by
  intro d
  induction d with
  | zero =>
   intro i hi
   refine Ev.step (fun _ => by rw [impl_isEmptyFrom.l0]) (Ev.ng (by omega) (Ev.eq (Ev.now _) ?_))
   rw [show i = pl.length by omega, List.drop_length]; rfl
  | succ d ih =>
   intro i hi
   have h : i < pl.length := by omega
   obtain ⟨x1, x2⟩ := hx pl[i] (List.getElem_mem h)
   refine Ev.step (fun _ => by rw [impl_isEmptyFrom.l0]) (Ev.ip (by omega) (Ev.ip (by omega) (Ev.ip (by omega) ?_)))
   rw [rdL_nat pl i h, wrap_in (row * w) (by omega) (by omega), List.drop_eq_getElem_cons h]
   refine Ev.ip hw (Ev.ip x1 ?_)
   obtain ⟨k, hk⟩ := impl_allWithin.ev 0 0 (pl[i].drop (row * w).toNat) (by rw [zR]; omega)
   refine Ev.bind (Ev.of (impl_allWithin.mono _ 0 0) hk) ?_
   by_cases ha : allW 0 0 (pl[i].drop (row * w).toNat) = true
   ·refine Ev.ip ha ?_
    rw [wrap_succ i (by omega)]
    refine Ev.eq (ih (i + 1) (by omega)) ?_
    rw [emptyFrom, emptyFrom, List.all_cons, ha, Bool.true_and]
   ·refine Ev.ng ha (Ev.eq (Ev.now _) ?_)
    rw [emptyFrom, List.all_cons, Bool.eq_false_iff.2 ha, Bool.false_and]
 exact key pl.length 0 (Nat.zero_add _)
end Go.Proofs.Ytilimpjcdeeaiaa.G


namespace Go.Proofs.Ytilimpjcdeeaiaa.G
open Go.RowKit Go.Proofs.YtilimpjcdeeaiaaW.PrintWords Go.Proofs.YtilimpjcdeeaiaaW.PrintLast Go.Proofs.YtilimpjcdeeaiaaW.PrintMore
attribute [local go_sem] max2_int min2_int max_two min_two max_three min_three max_four min_four   -- for this text's walks alone
def impl_isNoPicture.f (a0_0 : Int) (a0_1 : Int) (a0_2 : Int) (l0_3 : List (List Int)) : Option (Bool) := if a0_0 = 0 then (if a0_1 = 0 then (if a0_2 = 0 then (some ((l0_3.length : Int) == 0)) else (some false)) else (some false)) else (some false)
set_option maxHeartbeats 8000000 in
set_option maxRecDepth 100000 in
theorem impl_isNoPicture.calls (a0_0 : Int) (a0_1 : Int) (a0_2 : Int) (A0_3 : Option Addr) (c0_3 : Nat) (l0_3 : List (List Int)) (r : Bool) (w : World) (hr0_3 : Kd.C (Kd.slice 3 (Kd.int .i64)) w A0_3 l0_3.length l0_3) (hc0_3 : l0_3.length ≤ c0_3) (h : impl_isNoPicture.f a0_0 a0_1 a0_2 l0_3 = some r) :
  Calls Try.prog 97 #[.agg #[.int .i64 a0_0, .int .i64 a0_1, .int .i64 a0_2, .slice A0_3 l0_3.length c0_3]] w fun e w' => e = .returned (.bool r) ∧ Below w.heap.size w w' := by
 have hu81 := Try.underlying81
 have HR0_3 := zA hr0_3
 have HC0_3 := zA hc0_3
 clear hr0_3 hc0_3
 have HB := zA (Below.refl w.heap.size w)
 have H : (if a0_0 = 0 then (if a0_1 = 0 then (if a0_2 = 0 then (some ((l0_3.length : Int) == 0)) else (some false)) else (some false)) else (some false)) = some r := h
 clear h
 by_cases c2 : a0_0 = 0
 ·rw [if_pos c2] at H
  have c2b0 : (a0_0 == 0) = true := beq_iff_eq.mpr c2
  have c2b1 : (a0_0 != 0) = false := bne_eq_false_iff_eq.mpr c2
  clear c2
  by_cases c3 : a0_1 = 0
  ·rw [if_pos c3] at H
   have c3b0 : (a0_1 == 0) = true := beq_iff_eq.mpr c3
   have c3b1 : (a0_1 != 0) = false := bne_eq_false_iff_eq.mpr c3
   clear c3
   by_cases c4 : a0_2 = 0
   ·rw [if_pos c4] at H
    have c4b0 : (a0_2 == 0) = true := beq_iff_eq.mpr c4
    have c4b1 : (a0_2 != 0) = false := bne_eq_false_iff_eq.mpr c4
    clear c4
    obtain rfl := Option.some.inj H
    go_enter Try.func97, Try.ntmps97
    go_wp2_with (first | ((with_reducible refine gate_dst (N := 1) rfl ?_); (try (refine gate_guard (by rfl) ?_; dsimp only)); refine box_event ?hg (N := 1) ?hd (cs := #[.int .i64 a0_0, .int .i64 a0_1, .int .i64 a0_2, .slice A0_3 l0_3.length c0_3]) (t := 81) ?hr ?_; (case hd => rfl); (case hg => rfl); (case hr => first | (go_simp; done) | (go_simp; rfl)); intro gb1247 hg w5 hbox hb; have n0_ := zA (below_step (by repeat (first | (with_reducible first | exact HB.out | apply zC | apply zB | apply zF) | exact HB.out)) hb); have n1_ := zA (hbox); have n2_ := zA ((by rw [hg]; exact (zL (by repeat (first | (with_reducible first | exact HB.out | apply zC | apply zB | apply zF) | exact HB.out))) : w.heap.size ≤ gb1247)); have n3_ := zA ((by rw [hg]; exact (zL (by repeat (first | (with_reducible first | exact HB.out | apply zC | apply zB | apply zF) | exact HB.out))) : w.heap.size ≤ gb1247)); clear HB; have HB := n0_; have BK1247 := n1_; have GW1247 := n2_; have GE1247 := n3_; clear n0_ n1_ n2_ n3_; clear hb hbox hg; have hcz6_0 : w5.cell? ⟨gb1247, 0, none⟩ = some (.int .i64 a0_0) := (zK BK1247.out 0).trans rfl; have hcz6_1 : w5.cell? ⟨gb1247, 1, none⟩ = some (.int .i64 a0_1) := (zK BK1247.out 1).trans rfl; have hcz6_2 : w5.cell? ⟨gb1247, 2, none⟩ = some (.int .i64 a0_2) := (zK BK1247.out 2).trans rfl; have hcz6_3 : w5.cell? ⟨gb1247, 3, none⟩ = some (.slice A0_3 l0_3.length c0_3) := (zK BK1247.out 3).trans rfl; have hfz6_0 := zJ BK1247.out 0; have hfz6_1 := zJ BK1247.out 1; have hfz6_2 := zJ BK1247.out 2; have hfz6_3 := zJ BK1247.out 3))
    go_ret
    exact ⟨by first | rfl | (simp [errW_none, errW_some] <;> rfl) | (simp [*, errW_none, errW_some] <;> rfl), by repeat (first | (with_reducible first | exact HB.out | apply zC | apply zB | apply zF | refine zE ?_ GE1247.out) | exact HB.out)⟩
   ·rw [if_neg c4] at H
    have c4b0 : (a0_2 == 0) = false := beq_eq_false_iff_ne.mpr c4
    have c4b1 : (a0_2 != 0) = true := bne_iff_ne.mpr c4
    obtain rfl := Option.some.inj H
    go_enter Try.func97, Try.ntmps97
    go_wp2_with (first | ((with_reducible refine gate_dst (N := 1) rfl ?_); (try (refine gate_guard (by rfl) ?_; dsimp only)); refine box_event ?hg (N := 1) ?hd (cs := #[.int .i64 a0_0, .int .i64 a0_1, .int .i64 a0_2, .slice A0_3 l0_3.length c0_3]) (t := 81) ?hr ?_; (case hd => rfl); (case hg => rfl); (case hr => first | (go_simp; done) | (go_simp; rfl)); intro gb1247 hg w7 hbox hb; have n0_ := zA (below_step (by repeat (first | (with_reducible first | exact HB.out | apply zC | apply zB | apply zF) | exact HB.out)) hb); have n1_ := zA (hbox); have n2_ := zA ((by rw [hg]; exact (zL (by repeat (first | (with_reducible first | exact HB.out | apply zC | apply zB | apply zF) | exact HB.out))) : w.heap.size ≤ gb1247)); have n3_ := zA ((by rw [hg]; exact (zL (by repeat (first | (with_reducible first | exact HB.out | apply zC | apply zB | apply zF) | exact HB.out))) : w.heap.size ≤ gb1247)); clear HB; have HB := n0_; have BK1247 := n1_; have GW1247 := n2_; have GE1247 := n3_; clear n0_ n1_ n2_ n3_; clear hb hbox hg; have hcz8_0 : w7.cell? ⟨gb1247, 0, none⟩ = some (.int .i64 a0_0) := (zK BK1247.out 0).trans rfl; have hcz8_1 : w7.cell? ⟨gb1247, 1, none⟩ = some (.int .i64 a0_1) := (zK BK1247.out 1).trans rfl; have hcz8_2 : w7.cell? ⟨gb1247, 2, none⟩ = some (.int .i64 a0_2) := (zK BK1247.out 2).trans rfl; have hcz8_3 : w7.cell? ⟨gb1247, 3, none⟩ = some (.slice A0_3 l0_3.length c0_3) := (zK BK1247.out 3).trans rfl; have hfz8_0 := zJ BK1247.out 0; have hfz8_1 := zJ BK1247.out 1; have hfz8_2 := zJ BK1247.out 2; have hfz8_3 := zJ BK1247.out 3))
    go_ret
    exact ⟨by first | rfl | (simp [errW_none, errW_some] <;> rfl) | (simp [*, errW_none, errW_some] <;> rfl), by repeat (first | (with_reducible first | exact HB.out | apply zC | apply zB | apply zF | refine zE ?_ GE1247.out) | exact HB.out)⟩
  ·rw [if_neg c3] at H
   have c3b0 : (a0_1 == 0) = false := beq_eq_false_iff_ne.mpr c3
   have c3b1 : (a0_1 != 0) = true := bne_iff_ne.mpr c3
   obtain rfl := Option.some.inj H
   go_enter Try.func97, Try.ntmps97
   go_wp2_with (first | ((with_reducible refine gate_dst (N := 1) rfl ?_); (try (refine gate_guard (by rfl) ?_; dsimp only)); refine box_event ?hg (N := 1) ?hd (cs := #[.int .i64 a0_0, .int .i64 a0_1, .int .i64 a0_2, .slice A0_3 l0_3.length c0_3]) (t := 81) ?hr ?_; (case hd => rfl); (case hg => rfl); (case hr => first | (go_simp; done) | (go_simp; rfl)); intro gb1247 hg w9 hbox hb; have n0_ := zA (below_step (by repeat (first | (with_reducible first | exact HB.out | apply zC | apply zB | apply zF) | exact HB.out)) hb); have n1_ := zA (hbox); have n2_ := zA ((by rw [hg]; exact (zL (by repeat (first | (with_reducible first | exact HB.out | apply zC | apply zB | apply zF) | exact HB.out))) : w.heap.size ≤ gb1247)); have n3_ := zA ((by rw [hg]; exact (zL (by repeat (first | (with_reducible first | exact HB.out | apply zC | apply zB | apply zF) | exact HB.out))) : w.heap.size ≤ gb1247)); clear HB; have HB := n0_; have BK1247 := n1_; have GW1247 := n2_; have GE1247 := n3_; clear n0_ n1_ n2_ n3_; clear hb hbox hg; have hcz10_0 : w9.cell? ⟨gb1247, 0, none⟩ = some (.int .i64 a0_0) := (zK BK1247.out 0).trans rfl; have hcz10_1 : w9.cell? ⟨gb1247, 1, none⟩ = some (.int .i64 a0_1) := (zK BK1247.out 1).trans rfl; have hcz10_2 : w9.cell? ⟨gb1247, 2, none⟩ = some (.int .i64 a0_2) := (zK BK1247.out 2).trans rfl; have hcz10_3 : w9.cell? ⟨gb1247, 3, none⟩ = some (.slice A0_3 l0_3.length c0_3) := (zK BK1247.out 3).trans rfl; have hfz10_0 := zJ BK1247.out 0; have hfz10_1 := zJ BK1247.out 1; have hfz10_2 := zJ BK1247.out 2; have hfz10_3 := zJ BK1247.out 3))
   go_ret
   exact ⟨by first | rfl | (simp [errW_none, errW_some] <;> rfl) | (simp [*, errW_none, errW_some] <;> rfl), by repeat (first | (with_reducible first | exact HB.out | apply zC | apply zB | apply zF | refine zE ?_ GE1247.out) | exact HB.out)⟩
 ·rw [if_neg c2] at H
  have c2b0 : (a0_0 == 0) = false := beq_eq_false_iff_ne.mpr c2
  have c2b1 : (a0_0 != 0) = true := bne_iff_ne.mpr c2
  obtain rfl := Option.some.inj H
  go_enter Try.func97, Try.ntmps97
  go_wp2_with (first | ((with_reducible refine gate_dst (N := 1) rfl ?_); (try (refine gate_guard (by rfl) ?_; dsimp only)); refine box_event ?hg (N := 1) ?hd (cs := #[.int .i64 a0_0, .int .i64 a0_1, .int .i64 a0_2, .slice A0_3 l0_3.length c0_3]) (t := 81) ?hr ?_; (case hd => rfl); (case hg => rfl); (case hr => first | (go_simp; done) | (go_simp; rfl)); intro gb1247 hg w11 hbox hb; have n0_ := zA (below_step (by repeat (first | (with_reducible first | exact HB.out | apply zC | apply zB | apply zF) | exact HB.out)) hb); have n1_ := zA (hbox); have n2_ := zA ((by rw [hg]; exact (zL (by repeat (first | (with_reducible first | exact HB.out | apply zC | apply zB | apply zF) | exact HB.out))) : w.heap.size ≤ gb1247)); have n3_ := zA ((by rw [hg]; exact (zL (by repeat (first | (with_reducible first | exact HB.out | apply zC | apply zB | apply zF) | exact HB.out))) : w.heap.size ≤ gb1247)); clear HB; have HB := n0_; have BK1247 := n1_; have GW1247 := n2_; have GE1247 := n3_; clear n0_ n1_ n2_ n3_; clear hb hbox hg; have hcz12_0 : w11.cell? ⟨gb1247, 0, none⟩ = some (.int .i64 a0_0) := (zK BK1247.out 0).trans rfl; have hcz12_1 : w11.cell? ⟨gb1247, 1, none⟩ = some (.int .i64 a0_1) := (zK BK1247.out 1).trans rfl; have hcz12_2 : w11.cell? ⟨gb1247, 2, none⟩ = some (.int .i64 a0_2) := (zK BK1247.out 2).trans rfl; have hcz12_3 : w11.cell? ⟨gb1247, 3, none⟩ = some (.slice A0_3 l0_3.length c0_3) := (zK BK1247.out 3).trans rfl; have hfz12_0 := zJ BK1247.out 0; have hfz12_1 := zJ BK1247.out 1; have hfz12_2 := zJ BK1247.out 2; have hfz12_3 := zJ BK1247.out 3))
  go_ret
  exact ⟨by first | rfl | (simp [errW_none, errW_some] <;> rfl) | (simp [*, errW_none, errW_some] <;> rfl), by repeat (first | (with_reducible first | exact HB.out | apply zC | apply zB | apply zF | refine zE ?_ GE1247.out) | exact HB.out)⟩
end Go.Proofs.Ytilimpjcdeeaiaa.G

