/- The law FnExactDeskOk: for every desk the program's DeskOk answers as the reference's and leaves its argument as it was. No condition. -/
import Derived.Deep.Slices
import Derived.ChangeArms
import Derived.Test.YtilimpjcdeeaiaaRows
import Derived.WalkKit
import Derived.ProofKit
import Derived.OpenShut
import Derived.ShutString
import Derived.ChangeOld
import Derived.Below
import Derived.SizedLaws
import Derived.ChangeSame
import Derived.Test.YtilimpjcdeeaiaaMFnExactDeskOk4
set_option linter.unusedVariables false
set_option linter.unusedSimpArgs false
namespace Go.Proofs.Ytilimpjcdeeaiaa.G
open Go.RowKit Go.Proofs.YtilimpjcdeeaiaaW.PrintWords Go.Proofs.YtilimpjcdeeaiaaW.PrintLast Go.Proofs.YtilimpjcdeeaiaaW.PrintMore
attribute [local go_sem] max2_int min2_int max_two min_two max_three min_three max_four min_four   -- for this text's walks alone
attribute [local go_sem high] eqA82
def impl_isNoFeed.f (l0_0 : List Int) (a0_1 : Int) (a0_2 : Bool) (a0_3 : Int) (a0_4 : Int) : Option (Bool) := if (l0_0.length : Int) = 0 then (if a0_1 = 0 then (if a0_2 = true then (some false) else (some (a0_3 == 0 && (a0_4 == 0)))) else (some false)) else (some false)
set_option maxHeartbeats 8000000 in
set_option maxRecDepth 100000 in
theorem impl_isNoFeed.calls (A0_0 : Option Addr) (c0_0 : Nat) (l0_0 : List Int) (a0_1 : Int) (a0_2 : Bool) (a0_3 : Int) (a0_4 : Int) (r : Bool) (w : World) (hr0_0 : Kd.C (Kd.int .u8) w A0_0 l0_0.length l0_0) (hc0_0 : l0_0.length ≤ c0_0) (h : impl_isNoFeed.f l0_0 a0_1 a0_2 a0_3 a0_4 = some r) :
  Calls Try.prog 98 #[.agg #[.slice A0_0 l0_0.length c0_0, .int .i64 a0_1, .bool a0_2, .int .i64 a0_3, .int .i64 a0_4]] w fun e w' => e = .returned (.bool r) ∧ Below w.heap.size w w' := by
 have hu84 := Try.underlying84
 have hu82 := Try.underlying82
 have HR0_0 := zA hr0_0
 have HC0_0 := zA hc0_0
 clear hr0_0 hc0_0
 have HB := zA (Below.refl w.heap.size w)
 have H : (if (l0_0.length : Int) = 0 then (if a0_1 = 0 then (if a0_2 = true then (some false) else (some (a0_3 == 0 && (a0_4 == 0)))) else (some false)) else (some false)) = some r := h
 clear h
 by_cases c2 : (l0_0.length : Int) = 0
 ·rw [if_pos c2] at H
  have c2b0 : ((l0_0.length : Int) == 0) = true := beq_iff_eq.mpr c2
  have c2b1 : ((l0_0.length : Int) != 0) = false := bne_eq_false_iff_eq.mpr c2
  clear c2
  by_cases c3 : a0_1 = 0
  ·rw [if_pos c3] at H
   have c3b0 : (a0_1 == 0) = true := beq_iff_eq.mpr c3
   have c3b1 : (a0_1 != 0) = false := bne_eq_false_iff_eq.mpr c3
   clear c3
   by_cases c4 : a0_2 = true
   ·subst c4
    have H1 : (some false) = some r := by rw [if_pos rfl] at H; exact H
    clear H
    have H := H1
    clear H1
    obtain rfl := Option.some.inj H
    go_enter Try.func98, Try.ntmps98
    go_wp2_with (first | ((with_reducible refine gate_dst (N := 1) rfl ?_); refine box_event ?hg (N := 1) ?hd (cs := #[.slice A0_0 l0_0.length c0_0, .int .i64 a0_1, .bool true, .int .i64 a0_3, .int .i64 a0_4]) (t := 84) ?hr ?_; (case hd => rfl); (case hg => rfl); (case hr => first | (go_simp; done) | (go_simp; rfl)); intro gb1248 hg w5 hbox hb; have n0_ := zA (below_step (by repeat (first | (with_reducible first | exact HB.out | apply zC | apply zB | apply zF) | exact HB.out)) hb); have n1_ := zA (hbox); have n2_ := zA ((by rw [hg]; exact (zL (by repeat (first | (with_reducible first | exact HB.out | apply zC | apply zB | apply zF) | exact HB.out))) : w.heap.size ≤ gb1248)); have n3_ := zA ((by rw [hg]; exact (zL (by repeat (first | (with_reducible first | exact HB.out | apply zC | apply zB | apply zF) | exact HB.out))) : w.heap.size ≤ gb1248)); clear HB; have HB := n0_; have BK1248 := n1_; have GW1248 := n2_; have GE1248 := n3_; clear n0_ n1_ n2_ n3_; clear hb hbox hg; have hcz6_0 : w5.cell? ⟨gb1248, 0, none⟩ = some (.slice A0_0 l0_0.length c0_0) := (zK BK1248.out 0).trans rfl; have hcz6_1 : w5.cell? ⟨gb1248, 1, none⟩ = some (.int .i64 a0_1) := (zK BK1248.out 1).trans rfl; have hcz6_2 : w5.cell? ⟨gb1248, 2, none⟩ = some (.bool true) := (zK BK1248.out 2).trans rfl; have hcz6_3 : w5.cell? ⟨gb1248, 3, none⟩ = some (.int .i64 a0_3) := (zK BK1248.out 3).trans rfl; have hcz6_4 : w5.cell? ⟨gb1248, 4, none⟩ = some (.int .i64 a0_4) := (zK BK1248.out 4).trans rfl; have hfz6_0 := zJ BK1248.out 0; have hfz6_1 := zJ BK1248.out 1; have hfz6_2 := zJ BK1248.out 2; have hfz6_3 := zJ BK1248.out 3; have hfz6_4 := zJ BK1248.out 4))
    go_ret
    exact ⟨by first | rfl | (simp [errW_none, errW_some] <;> rfl) | (simp [*, errW_none, errW_some] <;> rfl), by repeat (first | (with_reducible first | exact HB.out | apply zC | apply zB | apply zF | refine zE ?_ GE1248.out) | exact HB.out)⟩
   ·replace c4 := Bool.eq_false_iff.mpr c4
    subst c4
    have H1 : (some (a0_3 == 0 && (a0_4 == 0))) = some r := by rw [if_neg (show ¬ (false = true) by decide)] at H; exact H
    clear H
    have H := H1
    clear H1
    obtain rfl := Option.some.inj H
    go_enter Try.func98, Try.ntmps98
    go_wp2_with (first | ((with_reducible refine gate_dst (N := 1) rfl ?_); refine box_event ?hg (N := 1) ?hd (cs := #[.slice A0_0 l0_0.length c0_0, .int .i64 a0_1, .bool false, .int .i64 a0_3, .int .i64 a0_4]) (t := 84) ?hr ?_; (case hd => rfl); (case hg => rfl); (case hr => first | (go_simp; done) | (go_simp; rfl)); intro gb1248 hg w7 hbox hb; have n0_ := zA (below_step (by repeat (first | (with_reducible first | exact HB.out | apply zC | apply zB | apply zF) | exact HB.out)) hb); have n1_ := zA (hbox); have n2_ := zA ((by rw [hg]; exact (zL (by repeat (first | (with_reducible first | exact HB.out | apply zC | apply zB | apply zF) | exact HB.out))) : w.heap.size ≤ gb1248)); have n3_ := zA ((by rw [hg]; exact (zL (by repeat (first | (with_reducible first | exact HB.out | apply zC | apply zB | apply zF) | exact HB.out))) : w.heap.size ≤ gb1248)); clear HB; have HB := n0_; have BK1248 := n1_; have GW1248 := n2_; have GE1248 := n3_; clear n0_ n1_ n2_ n3_; clear hb hbox hg; have hcz8_0 : w7.cell? ⟨gb1248, 0, none⟩ = some (.slice A0_0 l0_0.length c0_0) := (zK BK1248.out 0).trans rfl; have hcz8_1 : w7.cell? ⟨gb1248, 1, none⟩ = some (.int .i64 a0_1) := (zK BK1248.out 1).trans rfl; have hcz8_2 : w7.cell? ⟨gb1248, 2, none⟩ = some (.bool false) := (zK BK1248.out 2).trans rfl; have hcz8_3 : w7.cell? ⟨gb1248, 3, none⟩ = some (.int .i64 a0_3) := (zK BK1248.out 3).trans rfl; have hcz8_4 : w7.cell? ⟨gb1248, 4, none⟩ = some (.int .i64 a0_4) := (zK BK1248.out 4).trans rfl; have hfz8_0 := zJ BK1248.out 0; have hfz8_1 := zJ BK1248.out 1; have hfz8_2 := zJ BK1248.out 2; have hfz8_3 := zJ BK1248.out 3; have hfz8_4 := zJ BK1248.out 4))
    go_ret
    exact ⟨by first | rfl | (simp [errW_none, errW_some] <;> rfl) | (simp [*, errW_none, errW_some] <;> rfl), by repeat (first | (with_reducible first | exact HB.out | apply zC | apply zB | apply zF | refine zE ?_ GE1248.out) | exact HB.out)⟩
  ·rw [if_neg c3] at H
   have c3b0 : (a0_1 == 0) = false := beq_eq_false_iff_ne.mpr c3
   have c3b1 : (a0_1 != 0) = true := bne_iff_ne.mpr c3
   obtain rfl := Option.some.inj H
   go_enter Try.func98, Try.ntmps98
   go_wp2_with (first | ((with_reducible refine gate_dst (N := 1) rfl ?_); refine box_event ?hg (N := 1) ?hd (cs := #[.slice A0_0 l0_0.length c0_0, .int .i64 a0_1, .bool a0_2, .int .i64 a0_3, .int .i64 a0_4]) (t := 84) ?hr ?_; (case hd => rfl); (case hg => rfl); (case hr => first | (go_simp; done) | (go_simp; rfl)); intro gb1248 hg w9 hbox hb; have n0_ := zA (below_step (by repeat (first | (with_reducible first | exact HB.out | apply zC | apply zB | apply zF) | exact HB.out)) hb); have n1_ := zA (hbox); have n2_ := zA ((by rw [hg]; exact (zL (by repeat (first | (with_reducible first | exact HB.out | apply zC | apply zB | apply zF) | exact HB.out))) : w.heap.size ≤ gb1248)); have n3_ := zA ((by rw [hg]; exact (zL (by repeat (first | (with_reducible first | exact HB.out | apply zC | apply zB | apply zF) | exact HB.out))) : w.heap.size ≤ gb1248)); clear HB; have HB := n0_; have BK1248 := n1_; have GW1248 := n2_; have GE1248 := n3_; clear n0_ n1_ n2_ n3_; clear hb hbox hg; have hcz10_0 : w9.cell? ⟨gb1248, 0, none⟩ = some (.slice A0_0 l0_0.length c0_0) := (zK BK1248.out 0).trans rfl; have hcz10_1 : w9.cell? ⟨gb1248, 1, none⟩ = some (.int .i64 a0_1) := (zK BK1248.out 1).trans rfl; have hcz10_2 : w9.cell? ⟨gb1248, 2, none⟩ = some (.bool a0_2) := (zK BK1248.out 2).trans rfl; have hcz10_3 : w9.cell? ⟨gb1248, 3, none⟩ = some (.int .i64 a0_3) := (zK BK1248.out 3).trans rfl; have hcz10_4 : w9.cell? ⟨gb1248, 4, none⟩ = some (.int .i64 a0_4) := (zK BK1248.out 4).trans rfl; have hfz10_0 := zJ BK1248.out 0; have hfz10_1 := zJ BK1248.out 1; have hfz10_2 := zJ BK1248.out 2; have hfz10_3 := zJ BK1248.out 3; have hfz10_4 := zJ BK1248.out 4))
   go_ret
   exact ⟨by first | rfl | (simp [errW_none, errW_some] <;> rfl) | (simp [*, errW_none, errW_some] <;> rfl), by repeat (first | (with_reducible first | exact HB.out | apply zC | apply zB | apply zF | refine zE ?_ GE1248.out) | exact HB.out)⟩
 ·rw [if_neg c2] at H
  have c2b0 : ((l0_0.length : Int) == 0) = false := beq_eq_false_iff_ne.mpr c2
  have c2b1 : ((l0_0.length : Int) != 0) = true := bne_iff_ne.mpr c2
  have c2b2 : ¬ (l0_0 = []) := fun h_ => c2 (by rw [h_]; rfl)
  obtain rfl := Option.some.inj H
  go_enter Try.func98, Try.ntmps98
  go_wp2_with (first | ((with_reducible refine gate_dst (N := 1) rfl ?_); refine box_event ?hg (N := 1) ?hd (cs := #[.slice A0_0 l0_0.length c0_0, .int .i64 a0_1, .bool a0_2, .int .i64 a0_3, .int .i64 a0_4]) (t := 84) ?hr ?_; (case hd => rfl); (case hg => rfl); (case hr => first | (go_simp; done) | (go_simp; rfl)); intro gb1248 hg w11 hbox hb; have n0_ := zA (below_step (by repeat (first | (with_reducible first | exact HB.out | apply zC | apply zB | apply zF) | exact HB.out)) hb); have n1_ := zA (hbox); have n2_ := zA ((by rw [hg]; exact (zL (by repeat (first | (with_reducible first | exact HB.out | apply zC | apply zB | apply zF) | exact HB.out))) : w.heap.size ≤ gb1248)); have n3_ := zA ((by rw [hg]; exact (zL (by repeat (first | (with_reducible first | exact HB.out | apply zC | apply zB | apply zF) | exact HB.out))) : w.heap.size ≤ gb1248)); clear HB; have HB := n0_; have BK1248 := n1_; have GW1248 := n2_; have GE1248 := n3_; clear n0_ n1_ n2_ n3_; clear hb hbox hg; have hcz12_0 : w11.cell? ⟨gb1248, 0, none⟩ = some (.slice A0_0 l0_0.length c0_0) := (zK BK1248.out 0).trans rfl; have hcz12_1 : w11.cell? ⟨gb1248, 1, none⟩ = some (.int .i64 a0_1) := (zK BK1248.out 1).trans rfl; have hcz12_2 : w11.cell? ⟨gb1248, 2, none⟩ = some (.bool a0_2) := (zK BK1248.out 2).trans rfl; have hcz12_3 : w11.cell? ⟨gb1248, 3, none⟩ = some (.int .i64 a0_3) := (zK BK1248.out 3).trans rfl; have hcz12_4 : w11.cell? ⟨gb1248, 4, none⟩ = some (.int .i64 a0_4) := (zK BK1248.out 4).trans rfl; have hfz12_0 := zJ BK1248.out 0; have hfz12_1 := zJ BK1248.out 1; have hfz12_2 := zJ BK1248.out 2; have hfz12_3 := zJ BK1248.out 3; have hfz12_4 := zJ BK1248.out 4))
  go_ret
  exact ⟨by first | rfl | (simp [errW_none, errW_some] <;> rfl) | (simp [*, errW_none, errW_some] <;> rfl), by repeat (first | (with_reducible first | exact HB.out | apply zC | apply zB | apply zF | refine zE ?_ GE1248.out) | exact HB.out)⟩
end Go.Proofs.Ytilimpjcdeeaiaa.G


namespace Go.Proofs.Ytilimpjcdeeaiaa.G
open Go.RowKit Go.Proofs.YtilimpjcdeeaiaaW.PrintWords Go.Proofs.YtilimpjcdeeaiaaW.PrintLast Go.Proofs.YtilimpjcdeeaiaaW.PrintMore
attribute [local go_sem] max2_int min2_int max_two min_two max_three min_three max_four min_four   -- for this text's walks alone
def impl_DeskOk.j0 : Nat → Bool → Int → Int → Int → Int → List (List Int) → Int → List Int → Int → Bool → Int → Int → Option (Bool)
 | 0, _, _, _, _, _, _, _, _, _, _, _, _ => none
 | k + 1, x35, x1275000, x1275001, x1275002, x1275003, x1275004, x1275005, x1275006, x1275007, x1275008, x1275009, x1275010 => if x35 = true then ((impl_PictureOk.f k x1275001 x1275002 x1275003 x1275004).bind fun t1279 => (if t1279 = true then ((impl_within.f x1275005 0 x1275003).bind fun t1280 => (if t1280 = true then ((impl_isNoFeed.f x1275006 x1275007 x1275008 x1275009 x1275010).bind fun t1281 => (if t1281 = true then (if x1275000 = 3 then (some true) else ((impl_isEmptyFrom.f k x1275001 x1275002 x1275003 x1275004 x1275005).bind fun t1282 => (some t1282))) else (some false))) else (some false))) else (some false))) else (some false)
def impl_DeskOk.f (k : Nat) (a0_0 : Int) (a0_1 : Int) (a0_2 : Int) (a0_3 : Int) (l0_4 : List (List Int)) (a0_5 : Int) (l0_6 : List Int) (a0_7 : Int) (a0_8 : Bool) (a0_9 : Int) (a0_10 : Int) : Option (Bool) := if a0_0 = 0 then ((impl_isNoPicture.f a0_1 a0_2 a0_3 l0_4).bind fun t1275 => (if t1275 = true then (if a0_5 = 0 then ((impl_isNoFeed.f l0_6 a0_7 a0_8 a0_9 a0_10).bind fun t1276 => (some t1276)) else (some false)) else (some false))) else (if a0_0 = 2 then ((impl_isNoPicture.f a0_1 a0_2 a0_3 l0_4).bind fun t1277 => (if t1277 = true then (if a0_5 = 0 then ((impl_FeedOk.f l0_6 a0_7 a0_8 a0_9 a0_10).bind fun t1278 => (some t1278)) else (some false)) else (some false))) else (if a0_0 = 1 then (impl_DeskOk.j0 k (a0_0 == 1) a0_0 a0_1 a0_2 a0_3 l0_4 a0_5 l0_6 a0_7 a0_8 a0_9 a0_10) else (impl_DeskOk.j0 k (a0_0 == 3) a0_0 a0_1 a0_2 a0_3 l0_4 a0_5 l0_6 a0_7 a0_8 a0_9 a0_10)))
theorem impl_DeskOk.mono_l : ∀ k, (∀ y0 y1 y2 y3 y4 y5 y6 y7 y8 y9 y10 y11, LeO (impl_DeskOk.j0 k y0 y1 y2 y3 y4 y5 y6 y7 y8 y9 y10 y11) (impl_DeskOk.j0 (k + 1) y0 y1 y2 y3 y4 y5 y6 y7 y8 y9 y10 y11))
 | 0 => fun _ _ _ _ _ _ _ _ _ _ _ _ r h => by simp [impl_DeskOk.j0] at h
 | k + 1 => by
  have ih0 := impl_DeskOk.mono_l k
  ·intro y0 y1 y2 y3 y4 y5 y6 y7 y8 y9 y10 y11
   unfold impl_DeskOk.j0
   repeat' first
   | (with_reducible exact ih0 _ _ _ _ _ _ _ _ _ _ _ _)
   | (with_reducible exact impl_PictureOk.mono _ _ _ _ _)
   | (with_reducible exact impl_isEmptyFrom.mono _ _ _ _ _ _)
   | (with_reducible exact LeO.refl _)
   | (with_reducible exact LeO.none _)
   | (with_reducible refine LeO.ite ?_ ?_)
   | (with_reducible refine LeO.bind ?_ (fun _ => ?_))
   | exact ih0 _ _ _ _ _ _ _ _ _ _ _ _
   | exact impl_PictureOk.mono _ _ _ _ _
   | exact impl_isEmptyFrom.mono _ _ _ _ _ _
   | exact LeO.none _
   | refine LeO.ite ?_ ?_
   | refine LeO.bind ?_ (fun _ => ?_)
theorem impl_DeskOk.mono : ∀ a0 a1 a2 a3 a4 a5 a6 a7 a8 a9 a10 k, LeO (impl_DeskOk.f k a0 a1 a2 a3 a4 a5 a6 a7 a8 a9 a10) (impl_DeskOk.f (k + 1) a0 a1 a2 a3 a4 a5 a6 a7 a8 a9 a10) := by
 intro a0 a1 a2 a3 a4 a5 a6 a7 a8 a9 a10 k
 have ih0 := impl_DeskOk.mono_l k
 unfold impl_DeskOk.f
 repeat' first
   | (with_reducible exact ih0 _ _ _ _ _ _ _ _ _ _ _ _)
   | (with_reducible exact impl_PictureOk.mono _ _ _ _ _)
   | (with_reducible exact impl_isEmptyFrom.mono _ _ _ _ _ _)
   | (with_reducible exact LeO.refl _)
   | (with_reducible exact LeO.none _)
   | (with_reducible refine LeO.ite ?_ ?_)
   | (with_reducible refine LeO.bind ?_ (fun _ => ?_))
   | exact ih0 _ _ _ _ _ _ _ _ _ _ _ _
   | exact impl_PictureOk.mono _ _ _ _ _
   | exact impl_isEmptyFrom.mono _ _ _ _ _ _
   | exact LeO.none _
   | refine LeO.ite ?_ ?_
   | refine LeO.bind ?_ (fun _ => ?_)
set_option maxHeartbeats 8000000 in
set_option maxRecDepth 100000 in
theorem impl_DeskOk.calls (k : Nat) (a0_0 : Int) (a0_1 : Int) (a0_2 : Int) (a0_3 : Int) (A0_4 : Option Addr) (c0_4 : Nat) (l0_4 : List (List Int)) (a0_5 : Int) (A0_6 : Option Addr) (c0_6 : Nat) (l0_6 : List Int) (a0_7 : Int) (a0_8 : Bool) (a0_9 : Int) (a0_10 : Int) (r : Bool) (w : World) (hr0_4 : Kd.C (Kd.slice 3 (Kd.int .i64)) w A0_4 l0_4.length l0_4) (hc0_4 : l0_4.length ≤ c0_4) (hr0_6 : Kd.C (Kd.int .u8) w A0_6 l0_6.length l0_6) (hc0_6 : l0_6.length ≤ c0_6) (h : impl_DeskOk.f k a0_0 a0_1 a0_2 a0_3 l0_4 a0_5 l0_6 a0_7 a0_8 a0_9 a0_10 = some r) :
  Calls Try.prog 44 #[.agg #[.int .i64 a0_0, .int .i64 a0_1, .int .i64 a0_2, .int .i64 a0_3, .slice A0_4 l0_4.length c0_4, .int .i64 a0_5, .slice A0_6 l0_6.length c0_6, .int .i64 a0_7, .bool a0_8, .int .i64 a0_9, .int .i64 a0_10]] w fun e w' => e = .returned (.bool r) ∧ Below w.heap.size w w' := by
 have hu86 := Try.underlying86
 have hu81 := Try.underlying81
 have hu84 := Try.underlying84
 have HR0_4 := zA hr0_4
 have HC0_4 := zA hc0_4
 clear hr0_4 hc0_4
 have HR0_6 := zA hr0_6
 have HC0_6 := zA hc0_6
 clear hr0_6 hc0_6
 have HB := zA (Below.refl w.heap.size w)
 have H : (if a0_0 = 0 then ((impl_isNoPicture.f a0_1 a0_2 a0_3 l0_4).bind fun t1275 => (if t1275 = true then (if a0_5 = 0 then ((impl_isNoFeed.f l0_6 a0_7 a0_8 a0_9 a0_10).bind fun t1276 => (some t1276)) else (some false)) else (some false))) else (if a0_0 = 2 then ((impl_isNoPicture.f a0_1 a0_2 a0_3 l0_4).bind fun t1277 => (if t1277 = true then (if a0_5 = 0 then ((impl_FeedOk.f l0_6 a0_7 a0_8 a0_9 a0_10).bind fun t1278 => (some t1278)) else (some false)) else (some false))) else (if a0_0 = 1 then (impl_DeskOk.j0 k (a0_0 == 1) a0_0 a0_1 a0_2 a0_3 l0_4 a0_5 l0_6 a0_7 a0_8 a0_9 a0_10) else (impl_DeskOk.j0 k (a0_0 == 3) a0_0 a0_1 a0_2 a0_3 l0_4 a0_5 l0_6 a0_7 a0_8 a0_9 a0_10)))) = some r := h
 clear h
 by_cases c2 : a0_0 = 0
 ·rw [if_pos c2] at H
  have c2b0 : (a0_0 == 0) = true := beq_iff_eq.mpr c2
  have c2b1 : (a0_0 != 0) = false := bne_eq_false_iff_eq.mpr c2
  clear c2
  replace H := Option.bind_eq_some_iff.mp H
  obtain ⟨t1275, A30, H⟩ := H
  replace H : (if t1275 = true then (if a0_5 = 0 then ((impl_isNoFeed.f l0_6 a0_7 a0_8 a0_9 a0_10).bind fun t1276 => (some t1276)) else (some false)) else (some false)) = some r := H
  have A3 := zA A30
  clear A30
  by_cases c4 : t1275 = true
  ·subst c4
   have H1 : (if a0_5 = 0 then ((impl_isNoFeed.f l0_6 a0_7 a0_8 a0_9 a0_10).bind fun t1276 => (some t1276)) else (some false)) = some r := by rw [if_pos rfl] at H; exact H
   clear H
   have H := H1
   clear H1
   by_cases c5 : a0_5 = 0
   ·rw [if_pos c5] at H
    have c5b0 : (a0_5 == 0) = true := beq_iff_eq.mpr c5
    have c5b1 : (a0_5 != 0) = false := bne_eq_false_iff_eq.mpr c5
    clear c5
    replace H := Option.bind_eq_some_iff.mp H
    obtain ⟨t1276, A60, H⟩ := H
    replace H : (some t1276) = some r := H
    have A6 := zA A60
    clear A60
    obtain rfl := Option.some.inj H
    go_enter Try.func44, Try.ntmps44
    go_wp2_with (first | ((with_reducible refine gate_dst (N := 1) rfl ?_); refine box_event ?hg (N := 1) ?hd (cs := #[.int .i64 a0_0, .int .i64 a0_1, .int .i64 a0_2, .int .i64 a0_3, .slice A0_4 l0_4.length c0_4, .int .i64 a0_5, .slice A0_6 l0_6.length c0_6, .int .i64 a0_7, .bool a0_8, .int .i64 a0_9, .int .i64 a0_10]) (t := 86) ?hr ?_; (case hd => rfl); (case hg => rfl); (case hr => first | (go_simp; done) | (go_simp; rfl)); intro gb1274 hg w7 hbox hb; have n0_ := zA (below_step (by repeat (first | (with_reducible first | exact HB.out | apply zC | apply zB | apply zF) | exact HB.out)) hb); have n1_ := zA (hbox); have n2_ := zA ((by rw [hg]; exact (zL (by repeat (first | (with_reducible first | exact HB.out | apply zC | apply zB | apply zF) | exact HB.out))) : w.heap.size ≤ gb1274)); have n3_ := zA ((by rw [hg]; exact (zL (by repeat (first | (with_reducible first | exact HB.out | apply zC | apply zB | apply zF) | exact HB.out))) : w.heap.size ≤ gb1274)); clear HB; have HB := n0_; have BK1274 := n1_; have GW1274 := n2_; have GE1274 := n3_; clear n0_ n1_ n2_ n3_; clear hb hbox hg; have hcz8_0 : w7.cell? ⟨gb1274, 0, none⟩ = some (.int .i64 a0_0) := (zK BK1274.out 0).trans rfl; have hcz8_1 : w7.cell? ⟨gb1274, 1, none⟩ = some (.int .i64 a0_1) := (zK BK1274.out 1).trans rfl; have hcz8_2 : w7.cell? ⟨gb1274, 2, none⟩ = some (.int .i64 a0_2) := (zK BK1274.out 2).trans rfl; have hcz8_3 : w7.cell? ⟨gb1274, 3, none⟩ = some (.int .i64 a0_3) := (zK BK1274.out 3).trans rfl; have hcz8_4 : w7.cell? ⟨gb1274, 4, none⟩ = some (.slice A0_4 l0_4.length c0_4) := (zK BK1274.out 4).trans rfl; have hcz8_5 : w7.cell? ⟨gb1274, 5, none⟩ = some (.int .i64 a0_5) := (zK BK1274.out 5).trans rfl; have hcz8_6 : w7.cell? ⟨gb1274, 6, none⟩ = some (.slice A0_6 l0_6.length c0_6) := (zK BK1274.out 6).trans rfl; have hcz8_7 : w7.cell? ⟨gb1274, 7, none⟩ = some (.int .i64 a0_7) := (zK BK1274.out 7).trans rfl; have hcz8_8 : w7.cell? ⟨gb1274, 8, none⟩ = some (.bool a0_8) := (zK BK1274.out 8).trans rfl; have hcz8_9 : w7.cell? ⟨gb1274, 9, none⟩ = some (.int .i64 a0_9) := (zK BK1274.out 9).trans rfl; have hcz8_10 : w7.cell? ⟨gb1274, 10, none⟩ = some (.int .i64 a0_10) := (zK BK1274.out 10).trans rfl) | ((with_reducible refine gate_callee (f := 97) rfl ?_); refine goesL_ (some 9) rfl rfl Try.func97 (by kernel_rfl) rfl #[.agg #[.int .i64 a0_1, .int .i64 a0_2, .int .i64 a0_3, .slice A0_4 l0_4.length c0_4]] rfl (by (try simp only [zU, zV, zW]); first | done | rfl | (simp only [zR, zQ]; rfl)) ?_; (with_reducible refine (impl_isNoPicture.calls a0_1 a0_2 a0_3 _ _ l0_4 true _ ?side1 ?side2 A3.out).mono ?_); (case side1 => repeat (first | exact (Kd.C_below HR0_4.out HB.out) | (with_reducible refine yH ?_ _) | (with_reducible refine yF ?_ _) | (with_reducible refine yG ?_))); (case side2 => exact HC0_4.out); rintro e w9 ⟨rfl, hb⟩; refine ⟨_, rfl, ?_⟩; have n0_ := zA (blk_below (g := gb1274) (o := .cells #[.int .i64 a0_0, .int .i64 a0_1, .int .i64 a0_2, .int .i64 a0_3, .slice A0_4 l0_4.length c0_4, .int .i64 a0_5, .slice A0_6 l0_6.length c0_6, .int .i64 a0_7, .bool a0_8, .int .i64 a0_9, .int .i64 a0_10] 86 (0, 0)) (by (with_reducible repeat (first | refine zG ?_ _ | refine zH ?_ | refine zD ?_ _)); exact BK1274.out) hb); have n1_ := zA (below_step (by repeat (first | (with_reducible first | exact HB.out | apply zC | apply zB | apply zF | refine zE ?_ GE1274.out) | exact HB.out)) hb); clear BK1274; clear HB; have BK1274 := n0_; have HB := n1_; clear n0_ n1_; (try clear hb); (try clear hb2); (try clear hk); (try clear hi); have hcz10_0 : w9.cell? ⟨gb1274, 0, none⟩ = some (.int .i64 a0_0) := (zK BK1274.out 0).trans rfl; have hcz10_1 : w9.cell? ⟨gb1274, 1, none⟩ = some (.int .i64 a0_1) := (zK BK1274.out 1).trans rfl; have hcz10_2 : w9.cell? ⟨gb1274, 2, none⟩ = some (.int .i64 a0_2) := (zK BK1274.out 2).trans rfl; have hcz10_3 : w9.cell? ⟨gb1274, 3, none⟩ = some (.int .i64 a0_3) := (zK BK1274.out 3).trans rfl; have hcz10_4 : w9.cell? ⟨gb1274, 4, none⟩ = some (.slice A0_4 l0_4.length c0_4) := (zK BK1274.out 4).trans rfl; have hcz10_5 : w9.cell? ⟨gb1274, 5, none⟩ = some (.int .i64 a0_5) := (zK BK1274.out 5).trans rfl; have hcz10_6 : w9.cell? ⟨gb1274, 6, none⟩ = some (.slice A0_6 l0_6.length c0_6) := (zK BK1274.out 6).trans rfl; have hcz10_7 : w9.cell? ⟨gb1274, 7, none⟩ = some (.int .i64 a0_7) := (zK BK1274.out 7).trans rfl; have hcz10_8 : w9.cell? ⟨gb1274, 8, none⟩ = some (.bool a0_8) := (zK BK1274.out 8).trans rfl; have hcz10_9 : w9.cell? ⟨gb1274, 9, none⟩ = some (.int .i64 a0_9) := (zK BK1274.out 9).trans rfl; have hcz10_10 : w9.cell? ⟨gb1274, 10, none⟩ = some (.int .i64 a0_10) := (zK BK1274.out 10).trans rfl) | (go_at_call 98; (with_reducible refine (impl_isNoFeed.calls _ _ l0_6 a0_7 a0_8 a0_9 a0_10 t1276 _ ?side1 ?side2 A6.out).mono ?_); (case side1 => repeat (first | exact (Kd.C_below HR0_6.out HB.out) | (with_reducible refine yH ?_ _) | (with_reducible refine yF ?_ _) | (with_reducible refine yG ?_))); (case side2 => exact HC0_6.out); rintro e w11 ⟨rfl, hb⟩; have n0_ := zA (blk_below (g := gb1274) (o := .cells #[.int .i64 a0_0, .int .i64 a0_1, .int .i64 a0_2, .int .i64 a0_3, .slice A0_4 l0_4.length c0_4, .int .i64 a0_5, .slice A0_6 l0_6.length c0_6, .int .i64 a0_7, .bool a0_8, .int .i64 a0_9, .int .i64 a0_10] 86 (0, 0)) (by (with_reducible repeat (first | refine zG ?_ _ | refine zH ?_ | refine zD ?_ _)); exact BK1274.out) hb); have n1_ := zA (below_step (by repeat (first | (with_reducible first | exact HB.out | apply zC | apply zB | apply zF | refine zE ?_ GE1274.out) | exact HB.out)) hb); clear BK1274; clear HB; have BK1274 := n0_; have HB := n1_; clear n0_ n1_; (try clear hb); (try clear hb2); (try clear hk); (try clear hi)))
    go_ret
    exact ⟨by first | rfl | (simp [errW_none, errW_some] <;> rfl) | (simp [*, errW_none, errW_some] <;> rfl), by repeat (first | (with_reducible first | exact HB.out | apply zC | apply zB | apply zF | refine zE ?_ GE1274.out) | exact HB.out)⟩
   ·rw [if_neg c5] at H
    have c5b0 : (a0_5 == 0) = false := beq_eq_false_iff_ne.mpr c5
    have c5b1 : (a0_5 != 0) = true := bne_iff_ne.mpr c5
    obtain rfl := Option.some.inj H
    go_enter Try.func44, Try.ntmps44
    go_wp2_with (first | ((with_reducible refine gate_dst (N := 1) rfl ?_); refine box_event ?hg (N := 1) ?hd (cs := #[.int .i64 a0_0, .int .i64 a0_1, .int .i64 a0_2, .int .i64 a0_3, .slice A0_4 l0_4.length c0_4, .int .i64 a0_5, .slice A0_6 l0_6.length c0_6, .int .i64 a0_7, .bool a0_8, .int .i64 a0_9, .int .i64 a0_10]) (t := 86) ?hr ?_; (case hd => rfl); (case hg => rfl); (case hr => first | (go_simp; done) | (go_simp; rfl)); intro gb1274 hg w12 hbox hb; have n0_ := zA (below_step (by repeat (first | (with_reducible first | exact HB.out | apply zC | apply zB | apply zF) | exact HB.out)) hb); have n1_ := zA (hbox); have n2_ := zA ((by rw [hg]; exact (zL (by repeat (first | (with_reducible first | exact HB.out | apply zC | apply zB | apply zF) | exact HB.out))) : w.heap.size ≤ gb1274)); have n3_ := zA ((by rw [hg]; exact (zL (by repeat (first | (with_reducible first | exact HB.out | apply zC | apply zB | apply zF) | exact HB.out))) : w.heap.size ≤ gb1274)); clear HB; have HB := n0_; have BK1274 := n1_; have GW1274 := n2_; have GE1274 := n3_; clear n0_ n1_ n2_ n3_; clear hb hbox hg; have hcz13_0 : w12.cell? ⟨gb1274, 0, none⟩ = some (.int .i64 a0_0) := (zK BK1274.out 0).trans rfl; have hcz13_1 : w12.cell? ⟨gb1274, 1, none⟩ = some (.int .i64 a0_1) := (zK BK1274.out 1).trans rfl; have hcz13_2 : w12.cell? ⟨gb1274, 2, none⟩ = some (.int .i64 a0_2) := (zK BK1274.out 2).trans rfl; have hcz13_3 : w12.cell? ⟨gb1274, 3, none⟩ = some (.int .i64 a0_3) := (zK BK1274.out 3).trans rfl; have hcz13_4 : w12.cell? ⟨gb1274, 4, none⟩ = some (.slice A0_4 l0_4.length c0_4) := (zK BK1274.out 4).trans rfl; have hcz13_5 : w12.cell? ⟨gb1274, 5, none⟩ = some (.int .i64 a0_5) := (zK BK1274.out 5).trans rfl; have hcz13_6 : w12.cell? ⟨gb1274, 6, none⟩ = some (.slice A0_6 l0_6.length c0_6) := (zK BK1274.out 6).trans rfl; have hcz13_7 : w12.cell? ⟨gb1274, 7, none⟩ = some (.int .i64 a0_7) := (zK BK1274.out 7).trans rfl; have hcz13_8 : w12.cell? ⟨gb1274, 8, none⟩ = some (.bool a0_8) := (zK BK1274.out 8).trans rfl; have hcz13_9 : w12.cell? ⟨gb1274, 9, none⟩ = some (.int .i64 a0_9) := (zK BK1274.out 9).trans rfl; have hcz13_10 : w12.cell? ⟨gb1274, 10, none⟩ = some (.int .i64 a0_10) := (zK BK1274.out 10).trans rfl) | ((with_reducible refine gate_callee (f := 97) rfl ?_); refine goesL_ (some 9) rfl rfl Try.func97 (by kernel_rfl) rfl #[.agg #[.int .i64 a0_1, .int .i64 a0_2, .int .i64 a0_3, .slice A0_4 l0_4.length c0_4]] rfl (by (try simp only [zU, zV, zW]); first | done | rfl | (simp only [zR, zQ]; rfl)) ?_; (with_reducible refine (impl_isNoPicture.calls a0_1 a0_2 a0_3 _ _ l0_4 true _ ?side1 ?side2 A3.out).mono ?_); (case side1 => repeat (first | exact (Kd.C_below HR0_4.out HB.out) | (with_reducible refine yH ?_ _) | (with_reducible refine yF ?_ _) | (with_reducible refine yG ?_))); (case side2 => exact HC0_4.out); rintro e w14 ⟨rfl, hb⟩; refine ⟨_, rfl, ?_⟩; have n0_ := zA (blk_below (g := gb1274) (o := .cells #[.int .i64 a0_0, .int .i64 a0_1, .int .i64 a0_2, .int .i64 a0_3, .slice A0_4 l0_4.length c0_4, .int .i64 a0_5, .slice A0_6 l0_6.length c0_6, .int .i64 a0_7, .bool a0_8, .int .i64 a0_9, .int .i64 a0_10] 86 (0, 0)) (by (with_reducible repeat (first | refine zG ?_ _ | refine zH ?_ | refine zD ?_ _)); exact BK1274.out) hb); have n1_ := zA (below_step (by repeat (first | (with_reducible first | exact HB.out | apply zC | apply zB | apply zF | refine zE ?_ GE1274.out) | exact HB.out)) hb); clear BK1274; clear HB; have BK1274 := n0_; have HB := n1_; clear n0_ n1_; (try clear hb); (try clear hb2); (try clear hk); (try clear hi); have hcz15_0 : w14.cell? ⟨gb1274, 0, none⟩ = some (.int .i64 a0_0) := (zK BK1274.out 0).trans rfl; have hcz15_1 : w14.cell? ⟨gb1274, 1, none⟩ = some (.int .i64 a0_1) := (zK BK1274.out 1).trans rfl; have hcz15_2 : w14.cell? ⟨gb1274, 2, none⟩ = some (.int .i64 a0_2) := (zK BK1274.out 2).trans rfl; have hcz15_3 : w14.cell? ⟨gb1274, 3, none⟩ = some (.int .i64 a0_3) := (zK BK1274.out 3).trans rfl; have hcz15_4 : w14.cell? ⟨gb1274, 4, none⟩ = some (.slice A0_4 l0_4.length c0_4) := (zK BK1274.out 4).trans rfl; have hcz15_5 : w14.cell? ⟨gb1274, 5, none⟩ = some (.int .i64 a0_5) := (zK BK1274.out 5).trans rfl; have hcz15_6 : w14.cell? ⟨gb1274, 6, none⟩ = some (.slice A0_6 l0_6.length c0_6) := (zK BK1274.out 6).trans rfl; have hcz15_7 : w14.cell? ⟨gb1274, 7, none⟩ = some (.int .i64 a0_7) := (zK BK1274.out 7).trans rfl; have hcz15_8 : w14.cell? ⟨gb1274, 8, none⟩ = some (.bool a0_8) := (zK BK1274.out 8).trans rfl; have hcz15_9 : w14.cell? ⟨gb1274, 9, none⟩ = some (.int .i64 a0_9) := (zK BK1274.out 9).trans rfl; have hcz15_10 : w14.cell? ⟨gb1274, 10, none⟩ = some (.int .i64 a0_10) := (zK BK1274.out 10).trans rfl))
    go_ret
    exact ⟨by first | rfl | (simp [errW_none, errW_some] <;> rfl) | (simp [*, errW_none, errW_some] <;> rfl), by repeat (first | (with_reducible first | exact HB.out | apply zC | apply zB | apply zF | refine zE ?_ GE1274.out) | exact HB.out)⟩
  ·replace c4 := Bool.eq_false_iff.mpr c4
   subst c4
   have H1 : (some false) = some r := by rw [if_neg (show ¬ (false = true) by decide)] at H; exact H
   clear H
   have H := H1
   clear H1
   obtain rfl := Option.some.inj H
   go_enter Try.func44, Try.ntmps44
   go_wp2_with (first | ((with_reducible refine gate_dst (N := 1) rfl ?_); refine box_event ?hg (N := 1) ?hd (cs := #[.int .i64 a0_0, .int .i64 a0_1, .int .i64 a0_2, .int .i64 a0_3, .slice A0_4 l0_4.length c0_4, .int .i64 a0_5, .slice A0_6 l0_6.length c0_6, .int .i64 a0_7, .bool a0_8, .int .i64 a0_9, .int .i64 a0_10]) (t := 86) ?hr ?_; (case hd => rfl); (case hg => rfl); (case hr => first | (go_simp; done) | (go_simp; rfl)); intro gb1274 hg w16 hbox hb; have n0_ := zA (below_step (by repeat (first | (with_reducible first | exact HB.out | apply zC | apply zB | apply zF) | exact HB.out)) hb); have n1_ := zA (hbox); have n2_ := zA ((by rw [hg]; exact (zL (by repeat (first | (with_reducible first | exact HB.out | apply zC | apply zB | apply zF) | exact HB.out))) : w.heap.size ≤ gb1274)); have n3_ := zA ((by rw [hg]; exact (zL (by repeat (first | (with_reducible first | exact HB.out | apply zC | apply zB | apply zF) | exact HB.out))) : w.heap.size ≤ gb1274)); clear HB; have HB := n0_; have BK1274 := n1_; have GW1274 := n2_; have GE1274 := n3_; clear n0_ n1_ n2_ n3_; clear hb hbox hg; have hcz17_0 : w16.cell? ⟨gb1274, 0, none⟩ = some (.int .i64 a0_0) := (zK BK1274.out 0).trans rfl; have hcz17_1 : w16.cell? ⟨gb1274, 1, none⟩ = some (.int .i64 a0_1) := (zK BK1274.out 1).trans rfl; have hcz17_2 : w16.cell? ⟨gb1274, 2, none⟩ = some (.int .i64 a0_2) := (zK BK1274.out 2).trans rfl; have hcz17_3 : w16.cell? ⟨gb1274, 3, none⟩ = some (.int .i64 a0_3) := (zK BK1274.out 3).trans rfl; have hcz17_4 : w16.cell? ⟨gb1274, 4, none⟩ = some (.slice A0_4 l0_4.length c0_4) := (zK BK1274.out 4).trans rfl; have hcz17_5 : w16.cell? ⟨gb1274, 5, none⟩ = some (.int .i64 a0_5) := (zK BK1274.out 5).trans rfl; have hcz17_6 : w16.cell? ⟨gb1274, 6, none⟩ = some (.slice A0_6 l0_6.length c0_6) := (zK BK1274.out 6).trans rfl; have hcz17_7 : w16.cell? ⟨gb1274, 7, none⟩ = some (.int .i64 a0_7) := (zK BK1274.out 7).trans rfl; have hcz17_8 : w16.cell? ⟨gb1274, 8, none⟩ = some (.bool a0_8) := (zK BK1274.out 8).trans rfl; have hcz17_9 : w16.cell? ⟨gb1274, 9, none⟩ = some (.int .i64 a0_9) := (zK BK1274.out 9).trans rfl; have hcz17_10 : w16.cell? ⟨gb1274, 10, none⟩ = some (.int .i64 a0_10) := (zK BK1274.out 10).trans rfl) | ((with_reducible refine gate_callee (f := 97) rfl ?_); refine goesL_ (some 9) rfl rfl Try.func97 (by kernel_rfl) rfl #[.agg #[.int .i64 a0_1, .int .i64 a0_2, .int .i64 a0_3, .slice A0_4 l0_4.length c0_4]] rfl (by (try simp only [zU, zV, zW]); first | done | rfl | (simp only [zR, zQ]; rfl)) ?_; (with_reducible refine (impl_isNoPicture.calls a0_1 a0_2 a0_3 _ _ l0_4 false _ ?side1 ?side2 A3.out).mono ?_); (case side1 => repeat (first | exact (Kd.C_below HR0_4.out HB.out) | (with_reducible refine yH ?_ _) | (with_reducible refine yF ?_ _) | (with_reducible refine yG ?_))); (case side2 => exact HC0_4.out); rintro e w18 ⟨rfl, hb⟩; refine ⟨_, rfl, ?_⟩; have n0_ := zA (blk_below (g := gb1274) (o := .cells #[.int .i64 a0_0, .int .i64 a0_1, .int .i64 a0_2, .int .i64 a0_3, .slice A0_4 l0_4.length c0_4, .int .i64 a0_5, .slice A0_6 l0_6.length c0_6, .int .i64 a0_7, .bool a0_8, .int .i64 a0_9, .int .i64 a0_10] 86 (0, 0)) (by (with_reducible repeat (first | refine zG ?_ _ | refine zH ?_ | refine zD ?_ _)); exact BK1274.out) hb); have n1_ := zA (below_step (by repeat (first | (with_reducible first | exact HB.out | apply zC | apply zB | apply zF | refine zE ?_ GE1274.out) | exact HB.out)) hb); clear BK1274; clear HB; have BK1274 := n0_; have HB := n1_; clear n0_ n1_; (try clear hb); (try clear hb2); (try clear hk); (try clear hi)))
   go_ret
   exact ⟨by first | rfl | (simp [errW_none, errW_some] <;> rfl) | (simp [*, errW_none, errW_some] <;> rfl), by repeat (first | (with_reducible first | exact HB.out | apply zC | apply zB | apply zF | refine zE ?_ GE1274.out) | exact HB.out)⟩
 ·rw [if_neg c2] at H
  have c2b0 : (a0_0 == 0) = false := beq_eq_false_iff_ne.mpr c2
  have c2b1 : (a0_0 != 0) = true := bne_iff_ne.mpr c2
  by_cases c19 : a0_0 = 2
  ·rw [if_pos c19] at H
   have c19b0 : (a0_0 == 2) = true := beq_iff_eq.mpr c19
   have c19b1 : (a0_0 != 2) = false := bne_eq_false_iff_eq.mpr c19
   clear c19
   replace H := Option.bind_eq_some_iff.mp H
   obtain ⟨t1277, A200, H⟩ := H
   replace H : (if t1277 = true then (if a0_5 = 0 then ((impl_FeedOk.f l0_6 a0_7 a0_8 a0_9 a0_10).bind fun t1278 => (some t1278)) else (some false)) else (some false)) = some r := H
   have A20 := zA A200
   clear A200
   by_cases c21 : t1277 = true
   ·subst c21
    have H1 : (if a0_5 = 0 then ((impl_FeedOk.f l0_6 a0_7 a0_8 a0_9 a0_10).bind fun t1278 => (some t1278)) else (some false)) = some r := by rw [if_pos rfl] at H; exact H
    clear H
    have H := H1
    clear H1
    by_cases c22 : a0_5 = 0
    ·rw [if_pos c22] at H
     have c22b0 : (a0_5 == 0) = true := beq_iff_eq.mpr c22
     have c22b1 : (a0_5 != 0) = false := bne_eq_false_iff_eq.mpr c22
     clear c22
     replace H := Option.bind_eq_some_iff.mp H
     obtain ⟨t1278, A230, H⟩ := H
     replace H : (some t1278) = some r := H
     have A23 := zA A230
     clear A230
     obtain rfl := Option.some.inj H
     go_enter Try.func44, Try.ntmps44
     go_wp2_with (first | ((with_reducible refine gate_dst (N := 1) rfl ?_); refine box_event ?hg (N := 1) ?hd (cs := #[.int .i64 a0_0, .int .i64 a0_1, .int .i64 a0_2, .int .i64 a0_3, .slice A0_4 l0_4.length c0_4, .int .i64 a0_5, .slice A0_6 l0_6.length c0_6, .int .i64 a0_7, .bool a0_8, .int .i64 a0_9, .int .i64 a0_10]) (t := 86) ?hr ?_; (case hd => rfl); (case hg => rfl); (case hr => first | (go_simp; done) | (go_simp; rfl)); intro gb1274 hg w24 hbox hb; have n0_ := zA (below_step (by repeat (first | (with_reducible first | exact HB.out | apply zC | apply zB | apply zF) | exact HB.out)) hb); have n1_ := zA (hbox); have n2_ := zA ((by rw [hg]; exact (zL (by repeat (first | (with_reducible first | exact HB.out | apply zC | apply zB | apply zF) | exact HB.out))) : w.heap.size ≤ gb1274)); have n3_ := zA ((by rw [hg]; exact (zL (by repeat (first | (with_reducible first | exact HB.out | apply zC | apply zB | apply zF) | exact HB.out))) : w.heap.size ≤ gb1274)); clear HB; have HB := n0_; have BK1274 := n1_; have GW1274 := n2_; have GE1274 := n3_; clear n0_ n1_ n2_ n3_; clear hb hbox hg; have hcz25_0 : w24.cell? ⟨gb1274, 0, none⟩ = some (.int .i64 a0_0) := (zK BK1274.out 0).trans rfl; have hcz25_1 : w24.cell? ⟨gb1274, 1, none⟩ = some (.int .i64 a0_1) := (zK BK1274.out 1).trans rfl; have hcz25_2 : w24.cell? ⟨gb1274, 2, none⟩ = some (.int .i64 a0_2) := (zK BK1274.out 2).trans rfl; have hcz25_3 : w24.cell? ⟨gb1274, 3, none⟩ = some (.int .i64 a0_3) := (zK BK1274.out 3).trans rfl; have hcz25_4 : w24.cell? ⟨gb1274, 4, none⟩ = some (.slice A0_4 l0_4.length c0_4) := (zK BK1274.out 4).trans rfl; have hcz25_5 : w24.cell? ⟨gb1274, 5, none⟩ = some (.int .i64 a0_5) := (zK BK1274.out 5).trans rfl; have hcz25_6 : w24.cell? ⟨gb1274, 6, none⟩ = some (.slice A0_6 l0_6.length c0_6) := (zK BK1274.out 6).trans rfl; have hcz25_7 : w24.cell? ⟨gb1274, 7, none⟩ = some (.int .i64 a0_7) := (zK BK1274.out 7).trans rfl; have hcz25_8 : w24.cell? ⟨gb1274, 8, none⟩ = some (.bool a0_8) := (zK BK1274.out 8).trans rfl; have hcz25_9 : w24.cell? ⟨gb1274, 9, none⟩ = some (.int .i64 a0_9) := (zK BK1274.out 9).trans rfl; have hcz25_10 : w24.cell? ⟨gb1274, 10, none⟩ = some (.int .i64 a0_10) := (zK BK1274.out 10).trans rfl) | ((with_reducible refine gate_callee (f := 97) rfl ?_); refine goesL_ (some 24) rfl rfl Try.func97 (by kernel_rfl) rfl #[.agg #[.int .i64 a0_1, .int .i64 a0_2, .int .i64 a0_3, .slice A0_4 l0_4.length c0_4]] rfl (by (try simp only [zU, zV, zW]); first | done | rfl | (simp only [zR, zQ]; rfl)) ?_; (with_reducible refine (impl_isNoPicture.calls a0_1 a0_2 a0_3 _ _ l0_4 true _ ?side1 ?side2 A20.out).mono ?_); (case side1 => repeat (first | exact (Kd.C_below HR0_4.out HB.out) | (with_reducible refine yH ?_ _) | (with_reducible refine yF ?_ _) | (with_reducible refine yG ?_))); (case side2 => exact HC0_4.out); rintro e w26 ⟨rfl, hb⟩; refine ⟨_, rfl, ?_⟩; have n0_ := zA (blk_below (g := gb1274) (o := .cells #[.int .i64 a0_0, .int .i64 a0_1, .int .i64 a0_2, .int .i64 a0_3, .slice A0_4 l0_4.length c0_4, .int .i64 a0_5, .slice A0_6 l0_6.length c0_6, .int .i64 a0_7, .bool a0_8, .int .i64 a0_9, .int .i64 a0_10] 86 (0, 0)) (by (with_reducible repeat (first | refine zG ?_ _ | refine zH ?_ | refine zD ?_ _)); exact BK1274.out) hb); have n1_ := zA (below_step (by repeat (first | (with_reducible first | exact HB.out | apply zC | apply zB | apply zF | refine zE ?_ GE1274.out) | exact HB.out)) hb); clear BK1274; clear HB; have BK1274 := n0_; have HB := n1_; clear n0_ n1_; (try clear hb); (try clear hb2); (try clear hk); (try clear hi); have hcz27_0 : w26.cell? ⟨gb1274, 0, none⟩ = some (.int .i64 a0_0) := (zK BK1274.out 0).trans rfl; have hcz27_1 : w26.cell? ⟨gb1274, 1, none⟩ = some (.int .i64 a0_1) := (zK BK1274.out 1).trans rfl; have hcz27_2 : w26.cell? ⟨gb1274, 2, none⟩ = some (.int .i64 a0_2) := (zK BK1274.out 2).trans rfl; have hcz27_3 : w26.cell? ⟨gb1274, 3, none⟩ = some (.int .i64 a0_3) := (zK BK1274.out 3).trans rfl; have hcz27_4 : w26.cell? ⟨gb1274, 4, none⟩ = some (.slice A0_4 l0_4.length c0_4) := (zK BK1274.out 4).trans rfl; have hcz27_5 : w26.cell? ⟨gb1274, 5, none⟩ = some (.int .i64 a0_5) := (zK BK1274.out 5).trans rfl; have hcz27_6 : w26.cell? ⟨gb1274, 6, none⟩ = some (.slice A0_6 l0_6.length c0_6) := (zK BK1274.out 6).trans rfl; have hcz27_7 : w26.cell? ⟨gb1274, 7, none⟩ = some (.int .i64 a0_7) := (zK BK1274.out 7).trans rfl; have hcz27_8 : w26.cell? ⟨gb1274, 8, none⟩ = some (.bool a0_8) := (zK BK1274.out 8).trans rfl; have hcz27_9 : w26.cell? ⟨gb1274, 9, none⟩ = some (.int .i64 a0_9) := (zK BK1274.out 9).trans rfl; have hcz27_10 : w26.cell? ⟨gb1274, 10, none⟩ = some (.int .i64 a0_10) := (zK BK1274.out 10).trans rfl) | (go_at_call 99; (with_reducible refine (impl_FeedOk.calls _ _ l0_6 a0_7 a0_8 a0_9 a0_10 t1278 _ ?side1 ?side2 A23.out).mono ?_); (case side1 => repeat (first | exact (Kd.C_below HR0_6.out HB.out) | (with_reducible refine yH ?_ _) | (with_reducible refine yF ?_ _) | (with_reducible refine yG ?_))); (case side2 => exact HC0_6.out); rintro e w28 ⟨rfl, hb⟩; have n0_ := zA (blk_below (g := gb1274) (o := .cells #[.int .i64 a0_0, .int .i64 a0_1, .int .i64 a0_2, .int .i64 a0_3, .slice A0_4 l0_4.length c0_4, .int .i64 a0_5, .slice A0_6 l0_6.length c0_6, .int .i64 a0_7, .bool a0_8, .int .i64 a0_9, .int .i64 a0_10] 86 (0, 0)) (by (with_reducible repeat (first | refine zG ?_ _ | refine zH ?_ | refine zD ?_ _)); exact BK1274.out) hb); have n1_ := zA (below_step (by repeat (first | (with_reducible first | exact HB.out | apply zC | apply zB | apply zF | refine zE ?_ GE1274.out) | exact HB.out)) hb); clear BK1274; clear HB; have BK1274 := n0_; have HB := n1_; clear n0_ n1_; (try clear hb); (try clear hb2); (try clear hk); (try clear hi)))
     go_ret
     exact ⟨by first | rfl | (simp [errW_none, errW_some] <;> rfl) | (simp [*, errW_none, errW_some] <;> rfl), by repeat (first | (with_reducible first | exact HB.out | apply zC | apply zB | apply zF | refine zE ?_ GE1274.out) | exact HB.out)⟩
    ·rw [if_neg c22] at H
     have c22b0 : (a0_5 == 0) = false := beq_eq_false_iff_ne.mpr c22
     have c22b1 : (a0_5 != 0) = true := bne_iff_ne.mpr c22
     obtain rfl := Option.some.inj H
     go_enter Try.func44, Try.ntmps44
     go_wp2_with (first | ((with_reducible refine gate_dst (N := 1) rfl ?_); refine box_event ?hg (N := 1) ?hd (cs := #[.int .i64 a0_0, .int .i64 a0_1, .int .i64 a0_2, .int .i64 a0_3, .slice A0_4 l0_4.length c0_4, .int .i64 a0_5, .slice A0_6 l0_6.length c0_6, .int .i64 a0_7, .bool a0_8, .int .i64 a0_9, .int .i64 a0_10]) (t := 86) ?hr ?_; (case hd => rfl); (case hg => rfl); (case hr => first | (go_simp; done) | (go_simp; rfl)); intro gb1274 hg w29 hbox hb; have n0_ := zA (below_step (by repeat (first | (with_reducible first | exact HB.out | apply zC | apply zB | apply zF) | exact HB.out)) hb); have n1_ := zA (hbox); have n2_ := zA ((by rw [hg]; exact (zL (by repeat (first | (with_reducible first | exact HB.out | apply zC | apply zB | apply zF) | exact HB.out))) : w.heap.size ≤ gb1274)); have n3_ := zA ((by rw [hg]; exact (zL (by repeat (first | (with_reducible first | exact HB.out | apply zC | apply zB | apply zF) | exact HB.out))) : w.heap.size ≤ gb1274)); clear HB; have HB := n0_; have BK1274 := n1_; have GW1274 := n2_; have GE1274 := n3_; clear n0_ n1_ n2_ n3_; clear hb hbox hg; have hcz30_0 : w29.cell? ⟨gb1274, 0, none⟩ = some (.int .i64 a0_0) := (zK BK1274.out 0).trans rfl; have hcz30_1 : w29.cell? ⟨gb1274, 1, none⟩ = some (.int .i64 a0_1) := (zK BK1274.out 1).trans rfl; have hcz30_2 : w29.cell? ⟨gb1274, 2, none⟩ = some (.int .i64 a0_2) := (zK BK1274.out 2).trans rfl; have hcz30_3 : w29.cell? ⟨gb1274, 3, none⟩ = some (.int .i64 a0_3) := (zK BK1274.out 3).trans rfl; have hcz30_4 : w29.cell? ⟨gb1274, 4, none⟩ = some (.slice A0_4 l0_4.length c0_4) := (zK BK1274.out 4).trans rfl; have hcz30_5 : w29.cell? ⟨gb1274, 5, none⟩ = some (.int .i64 a0_5) := (zK BK1274.out 5).trans rfl; have hcz30_6 : w29.cell? ⟨gb1274, 6, none⟩ = some (.slice A0_6 l0_6.length c0_6) := (zK BK1274.out 6).trans rfl; have hcz30_7 : w29.cell? ⟨gb1274, 7, none⟩ = some (.int .i64 a0_7) := (zK BK1274.out 7).trans rfl; have hcz30_8 : w29.cell? ⟨gb1274, 8, none⟩ = some (.bool a0_8) := (zK BK1274.out 8).trans rfl; have hcz30_9 : w29.cell? ⟨gb1274, 9, none⟩ = some (.int .i64 a0_9) := (zK BK1274.out 9).trans rfl; have hcz30_10 : w29.cell? ⟨gb1274, 10, none⟩ = some (.int .i64 a0_10) := (zK BK1274.out 10).trans rfl) | ((with_reducible refine gate_callee (f := 97) rfl ?_); refine goesL_ (some 24) rfl rfl Try.func97 (by kernel_rfl) rfl #[.agg #[.int .i64 a0_1, .int .i64 a0_2, .int .i64 a0_3, .slice A0_4 l0_4.length c0_4]] rfl (by (try simp only [zU, zV, zW]); first | done | rfl | (simp only [zR, zQ]; rfl)) ?_; (with_reducible refine (impl_isNoPicture.calls a0_1 a0_2 a0_3 _ _ l0_4 true _ ?side1 ?side2 A20.out).mono ?_); (case side1 => repeat (first | exact (Kd.C_below HR0_4.out HB.out) | (with_reducible refine yH ?_ _) | (with_reducible refine yF ?_ _) | (with_reducible refine yG ?_))); (case side2 => exact HC0_4.out); rintro e w31 ⟨rfl, hb⟩; refine ⟨_, rfl, ?_⟩; have n0_ := zA (blk_below (g := gb1274) (o := .cells #[.int .i64 a0_0, .int .i64 a0_1, .int .i64 a0_2, .int .i64 a0_3, .slice A0_4 l0_4.length c0_4, .int .i64 a0_5, .slice A0_6 l0_6.length c0_6, .int .i64 a0_7, .bool a0_8, .int .i64 a0_9, .int .i64 a0_10] 86 (0, 0)) (by (with_reducible repeat (first | refine zG ?_ _ | refine zH ?_ | refine zD ?_ _)); exact BK1274.out) hb); have n1_ := zA (below_step (by repeat (first | (with_reducible first | exact HB.out | apply zC | apply zB | apply zF | refine zE ?_ GE1274.out) | exact HB.out)) hb); clear BK1274; clear HB; have BK1274 := n0_; have HB := n1_; clear n0_ n1_; (try clear hb); (try clear hb2); (try clear hk); (try clear hi); have hcz32_0 : w31.cell? ⟨gb1274, 0, none⟩ = some (.int .i64 a0_0) := (zK BK1274.out 0).trans rfl; have hcz32_1 : w31.cell? ⟨gb1274, 1, none⟩ = some (.int .i64 a0_1) := (zK BK1274.out 1).trans rfl; have hcz32_2 : w31.cell? ⟨gb1274, 2, none⟩ = some (.int .i64 a0_2) := (zK BK1274.out 2).trans rfl; have hcz32_3 : w31.cell? ⟨gb1274, 3, none⟩ = some (.int .i64 a0_3) := (zK BK1274.out 3).trans rfl; have hcz32_4 : w31.cell? ⟨gb1274, 4, none⟩ = some (.slice A0_4 l0_4.length c0_4) := (zK BK1274.out 4).trans rfl; have hcz32_5 : w31.cell? ⟨gb1274, 5, none⟩ = some (.int .i64 a0_5) := (zK BK1274.out 5).trans rfl; have hcz32_6 : w31.cell? ⟨gb1274, 6, none⟩ = some (.slice A0_6 l0_6.length c0_6) := (zK BK1274.out 6).trans rfl; have hcz32_7 : w31.cell? ⟨gb1274, 7, none⟩ = some (.int .i64 a0_7) := (zK BK1274.out 7).trans rfl; have hcz32_8 : w31.cell? ⟨gb1274, 8, none⟩ = some (.bool a0_8) := (zK BK1274.out 8).trans rfl; have hcz32_9 : w31.cell? ⟨gb1274, 9, none⟩ = some (.int .i64 a0_9) := (zK BK1274.out 9).trans rfl; have hcz32_10 : w31.cell? ⟨gb1274, 10, none⟩ = some (.int .i64 a0_10) := (zK BK1274.out 10).trans rfl))
     go_ret
     exact ⟨by first | rfl | (simp [errW_none, errW_some] <;> rfl) | (simp [*, errW_none, errW_some] <;> rfl), by repeat (first | (with_reducible first | exact HB.out | apply zC | apply zB | apply zF | refine zE ?_ GE1274.out) | exact HB.out)⟩
   ·replace c21 := Bool.eq_false_iff.mpr c21
    subst c21
    have H1 : (some false) = some r := by rw [if_neg (show ¬ (false = true) by decide)] at H; exact H
    clear H
    have H := H1
    clear H1
    obtain rfl := Option.some.inj H
    go_enter Try.func44, Try.ntmps44
    go_wp2_with (first | ((with_reducible refine gate_dst (N := 1) rfl ?_); refine box_event ?hg (N := 1) ?hd (cs := #[.int .i64 a0_0, .int .i64 a0_1, .int .i64 a0_2, .int .i64 a0_3, .slice A0_4 l0_4.length c0_4, .int .i64 a0_5, .slice A0_6 l0_6.length c0_6, .int .i64 a0_7, .bool a0_8, .int .i64 a0_9, .int .i64 a0_10]) (t := 86) ?hr ?_; (case hd => rfl); (case hg => rfl); (case hr => first | (go_simp; done) | (go_simp; rfl)); intro gb1274 hg w33 hbox hb; have n0_ := zA (below_step (by repeat (first | (with_reducible first | exact HB.out | apply zC | apply zB | apply zF) | exact HB.out)) hb); have n1_ := zA (hbox); have n2_ := zA ((by rw [hg]; exact (zL (by repeat (first | (with_reducible first | exact HB.out | apply zC | apply zB | apply zF) | exact HB.out))) : w.heap.size ≤ gb1274)); have n3_ := zA ((by rw [hg]; exact (zL (by repeat (first | (with_reducible first | exact HB.out | apply zC | apply zB | apply zF) | exact HB.out))) : w.heap.size ≤ gb1274)); clear HB; have HB := n0_; have BK1274 := n1_; have GW1274 := n2_; have GE1274 := n3_; clear n0_ n1_ n2_ n3_; clear hb hbox hg; have hcz34_0 : w33.cell? ⟨gb1274, 0, none⟩ = some (.int .i64 a0_0) := (zK BK1274.out 0).trans rfl; have hcz34_1 : w33.cell? ⟨gb1274, 1, none⟩ = some (.int .i64 a0_1) := (zK BK1274.out 1).trans rfl; have hcz34_2 : w33.cell? ⟨gb1274, 2, none⟩ = some (.int .i64 a0_2) := (zK BK1274.out 2).trans rfl; have hcz34_3 : w33.cell? ⟨gb1274, 3, none⟩ = some (.int .i64 a0_3) := (zK BK1274.out 3).trans rfl; have hcz34_4 : w33.cell? ⟨gb1274, 4, none⟩ = some (.slice A0_4 l0_4.length c0_4) := (zK BK1274.out 4).trans rfl; have hcz34_5 : w33.cell? ⟨gb1274, 5, none⟩ = some (.int .i64 a0_5) := (zK BK1274.out 5).trans rfl; have hcz34_6 : w33.cell? ⟨gb1274, 6, none⟩ = some (.slice A0_6 l0_6.length c0_6) := (zK BK1274.out 6).trans rfl; have hcz34_7 : w33.cell? ⟨gb1274, 7, none⟩ = some (.int .i64 a0_7) := (zK BK1274.out 7).trans rfl; have hcz34_8 : w33.cell? ⟨gb1274, 8, none⟩ = some (.bool a0_8) := (zK BK1274.out 8).trans rfl; have hcz34_9 : w33.cell? ⟨gb1274, 9, none⟩ = some (.int .i64 a0_9) := (zK BK1274.out 9).trans rfl; have hcz34_10 : w33.cell? ⟨gb1274, 10, none⟩ = some (.int .i64 a0_10) := (zK BK1274.out 10).trans rfl) | ((with_reducible refine gate_callee (f := 97) rfl ?_); refine goesL_ (some 24) rfl rfl Try.func97 (by kernel_rfl) rfl #[.agg #[.int .i64 a0_1, .int .i64 a0_2, .int .i64 a0_3, .slice A0_4 l0_4.length c0_4]] rfl (by (try simp only [zU, zV, zW]); first | done | rfl | (simp only [zR, zQ]; rfl)) ?_; (with_reducible refine (impl_isNoPicture.calls a0_1 a0_2 a0_3 _ _ l0_4 false _ ?side1 ?side2 A20.out).mono ?_); (case side1 => repeat (first | exact (Kd.C_below HR0_4.out HB.out) | (with_reducible refine yH ?_ _) | (with_reducible refine yF ?_ _) | (with_reducible refine yG ?_))); (case side2 => exact HC0_4.out); rintro e w35 ⟨rfl, hb⟩; refine ⟨_, rfl, ?_⟩; have n0_ := zA (blk_below (g := gb1274) (o := .cells #[.int .i64 a0_0, .int .i64 a0_1, .int .i64 a0_2, .int .i64 a0_3, .slice A0_4 l0_4.length c0_4, .int .i64 a0_5, .slice A0_6 l0_6.length c0_6, .int .i64 a0_7, .bool a0_8, .int .i64 a0_9, .int .i64 a0_10] 86 (0, 0)) (by (with_reducible repeat (first | refine zG ?_ _ | refine zH ?_ | refine zD ?_ _)); exact BK1274.out) hb); have n1_ := zA (below_step (by repeat (first | (with_reducible first | exact HB.out | apply zC | apply zB | apply zF | refine zE ?_ GE1274.out) | exact HB.out)) hb); clear BK1274; clear HB; have BK1274 := n0_; have HB := n1_; clear n0_ n1_; (try clear hb); (try clear hb2); (try clear hk); (try clear hi)))
    go_ret
    exact ⟨by first | rfl | (simp [errW_none, errW_some] <;> rfl) | (simp [*, errW_none, errW_some] <;> rfl), by repeat (first | (with_reducible first | exact HB.out | apply zC | apply zB | apply zF | refine zE ?_ GE1274.out) | exact HB.out)⟩
  ·rw [if_neg c19] at H
   have c19b0 : (a0_0 == 2) = false := beq_eq_false_iff_ne.mpr c19
   have c19b1 : (a0_0 != 2) = true := bne_iff_ne.mpr c19
   have HC36 := zA H
   clear H
   go_enter Try.func44, Try.ntmps44
   go_upto_if 35 with (first | ((with_reducible refine gate_dst (N := 1) rfl ?_); refine box_event ?hg (N := 1) ?hd (cs := #[.int .i64 a0_0, .int .i64 a0_1, .int .i64 a0_2, .int .i64 a0_3, .slice A0_4 l0_4.length c0_4, .int .i64 a0_5, .slice A0_6 l0_6.length c0_6, .int .i64 a0_7, .bool a0_8, .int .i64 a0_9, .int .i64 a0_10]) (t := 86) ?hr ?_; (case hd => rfl); (case hg => rfl); (case hr => first | (go_simp; done) | (go_simp; rfl)); intro gb1274 hg w37 hbox hb; have n0_ := zA (below_step (by repeat (first | (with_reducible first | exact HB.out | apply zC | apply zB | apply zF) | exact HB.out)) hb); have n1_ := zA (hbox); have n2_ := zA ((by rw [hg]; exact (zL (by repeat (first | (with_reducible first | exact HB.out | apply zC | apply zB | apply zF) | exact HB.out))) : w.heap.size ≤ gb1274)); have n3_ := zA ((by rw [hg]; exact (zL (by repeat (first | (with_reducible first | exact HB.out | apply zC | apply zB | apply zF) | exact HB.out))) : w.heap.size ≤ gb1274)); clear HB; have HB := n0_; have BK1274 := n1_; have GW1274 := n2_; have GE1274 := n3_; clear n0_ n1_ n2_ n3_; clear hb hbox hg; have hcz38_0 : w37.cell? ⟨gb1274, 0, none⟩ = some (.int .i64 a0_0) := (zK BK1274.out 0).trans rfl; have hcz38_1 : w37.cell? ⟨gb1274, 1, none⟩ = some (.int .i64 a0_1) := (zK BK1274.out 1).trans rfl; have hcz38_2 : w37.cell? ⟨gb1274, 2, none⟩ = some (.int .i64 a0_2) := (zK BK1274.out 2).trans rfl; have hcz38_3 : w37.cell? ⟨gb1274, 3, none⟩ = some (.int .i64 a0_3) := (zK BK1274.out 3).trans rfl; have hcz38_4 : w37.cell? ⟨gb1274, 4, none⟩ = some (.slice A0_4 l0_4.length c0_4) := (zK BK1274.out 4).trans rfl; have hcz38_5 : w37.cell? ⟨gb1274, 5, none⟩ = some (.int .i64 a0_5) := (zK BK1274.out 5).trans rfl; have hcz38_6 : w37.cell? ⟨gb1274, 6, none⟩ = some (.slice A0_6 l0_6.length c0_6) := (zK BK1274.out 6).trans rfl; have hcz38_7 : w37.cell? ⟨gb1274, 7, none⟩ = some (.int .i64 a0_7) := (zK BK1274.out 7).trans rfl; have hcz38_8 : w37.cell? ⟨gb1274, 8, none⟩ = some (.bool a0_8) := (zK BK1274.out 8).trans rfl; have hcz38_9 : w37.cell? ⟨gb1274, 9, none⟩ = some (.int .i64 a0_9) := (zK BK1274.out 9).trans rfl; have hcz38_10 : w37.cell? ⟨gb1274, 10, none⟩ = some (.int .i64 a0_10) := (zK BK1274.out 10).trans rfl))
   (try simp only [Act.put, List.setIfInBounds_toArray, List.set_cons_zero, List.set_cons_succ])
   go_cut [35] (fun v35 wc => ∃ (kq : Nat) (x35_35 : Bool), v35 = .bool x35_35 ∧ Aside0 (impl_DeskOk.j0 kq x35_35 a0_0 a0_1 a0_2 a0_3 l0_4 a0_5 l0_6 a0_7 a0_8 a0_9 a0_10 = some r) ∧ Aside0 (kq ≤ k) ∧ Aside0 (wc.heap[gb1274]? = some (.cells #[.int .i64 a0_0, .int .i64 a0_1, .int .i64 a0_2, .int .i64 a0_3, (.slice A0_4 l0_4.length c0_4), .int .i64 a0_5, (.slice A0_6 l0_6.length c0_6), .int .i64 a0_7, .bool a0_8, .int .i64 a0_9, .int .i64 a0_10] 86 (0, 0))) ∧ Aside0 (Below w.heap.size w wc))
   case first =>
    have H := HC36.out
    clear HC36
    by_cases c39 : a0_0 = 1
    ·rw [if_pos c39] at H
     have c39b0 : (a0_0 == 1) = true := beq_iff_eq.mpr c39
     have c39b1 : (a0_0 != 1) = false := bne_eq_false_iff_eq.mpr c39
     clear c39
     (first | rw [c39b0] | (simp only [i64_w, i32_w]; rw [c39b0]) | skip)
     have H' := zA H
     clear H
     go_wp2
     go_meet
     case rel => exact ⟨_, ((a0_0 == 1)), (by first | rfl | (simp; done) | (simp [*]; done)), H', ⟨by first | omega | exact Nat.le_refl _⟩, ⟨by (with_reducible repeat (first | refine zG ?_ _ | refine zH ?_ | refine zD ?_ _)); exact BK1274.out⟩, ⟨by repeat (first | (with_reducible first | exact HB.out | apply zC | apply zB | apply zF | refine zE ?_ GE1274.out) | exact HB.out)⟩⟩
    ·rw [if_neg c39] at H
     have c39b0 : (a0_0 == 1) = false := beq_eq_false_iff_ne.mpr c39
     have c39b1 : (a0_0 != 1) = true := bne_iff_ne.mpr c39
     (first | rw [c39b0] | (simp only [i64_w, i32_w]; rw [c39b0]) | skip)
     have H' := zA H
     clear H
     go_wp2
     go_meet
     case rel => exact ⟨_, ((a0_0 == 3)), (by first | rfl | (simp; done) | (simp [*]; done)), H', ⟨by first | omega | exact Nat.le_refl _⟩, ⟨by (with_reducible repeat (first | refine zG ?_ _ | refine zH ?_ | refine zD ?_ _)); exact BK1274.out⟩, ⟨by repeat (first | (with_reducible first | exact HB.out | apply zC | apply zB | apply zF | refine zE ?_ GE1274.out) | exact HB.out)⟩⟩
   case rest =>
    clear HC36
    try clear c2
    try clear c2b0
    try clear c2b1
    try clear c19
    try clear c19b0
    try clear c19b1
    try clear hcz38_0
    try clear hcz38_1
    try clear hcz38_10
    try clear hcz38_2
    try clear hcz38_3
    try clear hcz38_4
    try clear hcz38_5
    try clear hcz38_6
    try clear hcz38_7
    try clear hcz38_8
    try clear hcz38_9
    try clear hfz38_0
    try clear hfz38_1
    try clear hfz38_10
    try clear hfz38_2
    try clear hfz38_3
    try clear hfz38_4
    try clear hfz38_5
    try clear hfz38_6
    try clear hfz38_7
    try clear hfz38_8
    try clear hfz38_9
    obtain ⟨kq, x35_35, rfl, HA, HJ35, BK1274, HB⟩ := hcut
    cases kq with
    | zero => exact absurd HA.out (by simp [impl_DeskOk.j0])
    | succ kj35 =>
     have H := HA.out
     clear HA
     simp only [impl_DeskOk.j0] at H
     by_cases c40 : x35_35 = true
     ·subst c40
      have H1 : ((impl_PictureOk.f kj35 a0_1 a0_2 a0_3 l0_4).bind fun t1279 => (if t1279 = true then ((impl_within.f a0_5 0 a0_3).bind fun t1280 => (if t1280 = true then ((impl_isNoFeed.f l0_6 a0_7 a0_8 a0_9 a0_10).bind fun t1281 => (if t1281 = true then (if a0_0 = 3 then (some true) else ((impl_isEmptyFrom.f kj35 a0_1 a0_2 a0_3 l0_4 a0_5).bind fun t1282 => (some t1282))) else (some false))) else (some false))) else (some false))) = some r := by rw [if_pos rfl] at H; exact H
      clear H
      have H := H1
      clear H1
      replace H := Option.bind_eq_some_iff.mp H
      obtain ⟨t1279, A410, H⟩ := H
      replace H : (if t1279 = true then ((impl_within.f a0_5 0 a0_3).bind fun t1280 => (if t1280 = true then ((impl_isNoFeed.f l0_6 a0_7 a0_8 a0_9 a0_10).bind fun t1281 => (if t1281 = true then (if a0_0 = 3 then (some true) else ((impl_isEmptyFrom.f kj35 a0_1 a0_2 a0_3 l0_4 a0_5).bind fun t1282 => (some t1282))) else (some false))) else (some false))) else (some false)) = some r := H
      have A41 := zA A410
      clear A410
      by_cases c42 : t1279 = true
      ·subst c42
       have H1 : ((impl_within.f a0_5 0 a0_3).bind fun t1280 => (if t1280 = true then ((impl_isNoFeed.f l0_6 a0_7 a0_8 a0_9 a0_10).bind fun t1281 => (if t1281 = true then (if a0_0 = 3 then (some true) else ((impl_isEmptyFrom.f kj35 a0_1 a0_2 a0_3 l0_4 a0_5).bind fun t1282 => (some t1282))) else (some false))) else (some false))) = some r := by rw [if_pos rfl] at H; exact H
       clear H
       have H := H1
       clear H1
       replace H := Option.bind_eq_some_iff.mp H
       obtain ⟨t1280, A430, H⟩ := H
       replace H : (if t1280 = true then ((impl_isNoFeed.f l0_6 a0_7 a0_8 a0_9 a0_10).bind fun t1281 => (if t1281 = true then (if a0_0 = 3 then (some true) else ((impl_isEmptyFrom.f kj35 a0_1 a0_2 a0_3 l0_4 a0_5).bind fun t1282 => (some t1282))) else (some false))) else (some false)) = some r := H
       have A43 := zA A430
       clear A430
       by_cases c44 : t1280 = true
       ·subst c44
        have H1 : ((impl_isNoFeed.f l0_6 a0_7 a0_8 a0_9 a0_10).bind fun t1281 => (if t1281 = true then (if a0_0 = 3 then (some true) else ((impl_isEmptyFrom.f kj35 a0_1 a0_2 a0_3 l0_4 a0_5).bind fun t1282 => (some t1282))) else (some false))) = some r := by rw [if_pos rfl] at H; exact H
        clear H
        have H := H1
        clear H1
        replace H := Option.bind_eq_some_iff.mp H
        obtain ⟨t1281, A450, H⟩ := H
        replace H : (if t1281 = true then (if a0_0 = 3 then (some true) else ((impl_isEmptyFrom.f kj35 a0_1 a0_2 a0_3 l0_4 a0_5).bind fun t1282 => (some t1282))) else (some false)) = some r := H
        have A45 := zA A450
        clear A450
        by_cases c46 : t1281 = true
        ·subst c46
         have H1 : (if a0_0 = 3 then (some true) else ((impl_isEmptyFrom.f kj35 a0_1 a0_2 a0_3 l0_4 a0_5).bind fun t1282 => (some t1282))) = some r := by rw [if_pos rfl] at H; exact H
         clear H
         have H := H1
         clear H1
         by_cases c47 : a0_0 = 3
         ·rw [if_pos c47] at H
          have c47b0 : (a0_0 == 3) = true := beq_iff_eq.mpr c47
          have c47b1 : (a0_0 != 3) = false := bne_eq_false_iff_eq.mpr c47
          clear c47
          obtain rfl := Option.some.inj H
          have hcz48_0 : wc.cell? ⟨gb1274, 0, none⟩ = some (.int .i64 a0_0) := (zK BK1274.out 0).trans rfl
          have hcz48_1 : wc.cell? ⟨gb1274, 1, none⟩ = some (.int .i64 a0_1) := (zK BK1274.out 1).trans rfl
          have hcz48_2 : wc.cell? ⟨gb1274, 2, none⟩ = some (.int .i64 a0_2) := (zK BK1274.out 2).trans rfl
          have hcz48_3 : wc.cell? ⟨gb1274, 3, none⟩ = some (.int .i64 a0_3) := (zK BK1274.out 3).trans rfl
          have hcz48_4 : wc.cell? ⟨gb1274, 4, none⟩ = some (.slice A0_4 l0_4.length c0_4) := (zK BK1274.out 4).trans rfl
          have hcz48_5 : wc.cell? ⟨gb1274, 5, none⟩ = some (.int .i64 a0_5) := (zK BK1274.out 5).trans rfl
          have hcz48_6 : wc.cell? ⟨gb1274, 6, none⟩ = some (.slice A0_6 l0_6.length c0_6) := (zK BK1274.out 6).trans rfl
          have hcz48_7 : wc.cell? ⟨gb1274, 7, none⟩ = some (.int .i64 a0_7) := (zK BK1274.out 7).trans rfl
          have hcz48_8 : wc.cell? ⟨gb1274, 8, none⟩ = some (.bool a0_8) := (zK BK1274.out 8).trans rfl
          have hcz48_9 : wc.cell? ⟨gb1274, 9, none⟩ = some (.int .i64 a0_9) := (zK BK1274.out 9).trans rfl
          have hcz48_10 : wc.cell? ⟨gb1274, 10, none⟩ = some (.int .i64 a0_10) := (zK BK1274.out 10).trans rfl
          go_wp2_with (first | ((with_reducible refine gate_callee (f := 100) rfl ?_); refine goesL_ (some 40) rfl rfl Try.func100 (by kernel_rfl) rfl #[.agg #[.int .i64 a0_1, .int .i64 a0_2, .int .i64 a0_3, .slice A0_4 l0_4.length c0_4]] rfl (by (try simp only [zU, zV, zW]); first | done | rfl | (simp only [zR, zQ]; rfl)) ?_; (with_reducible refine (impl_PictureOk.calls kj35 a0_1 a0_2 a0_3 _ _ l0_4 true _ ?side1 ?side2 A41.out).mono ?_); (case side1 => repeat (first | exact (Kd.C_below HR0_4.out HB.out) | (with_reducible refine yH ?_ _) | (with_reducible refine yF ?_ _) | (with_reducible refine yG ?_))); (case side2 => exact HC0_4.out); rintro e w49 ⟨rfl, hb⟩; refine ⟨_, rfl, ?_⟩; have n0_ := zA (blk_below (g := gb1274) (o := .cells #[.int .i64 a0_0, .int .i64 a0_1, .int .i64 a0_2, .int .i64 a0_3, .slice A0_4 l0_4.length c0_4, .int .i64 a0_5, .slice A0_6 l0_6.length c0_6, .int .i64 a0_7, .bool a0_8, .int .i64 a0_9, .int .i64 a0_10] 86 (0, 0)) (by (with_reducible repeat (first | refine zG ?_ _ | refine zH ?_ | refine zD ?_ _)); exact BK1274.out) hb); have n1_ := zA (below_step (by repeat (first | (with_reducible first | exact HB.out | apply zC | apply zB | apply zF | refine zE ?_ GE1274.out) | exact HB.out)) hb); clear BK1274; clear HB; have BK1274 := n0_; have HB := n1_; clear n0_ n1_; (try clear hb); (try clear hb2); (try clear hk); (try clear hi); have hcz50_0 : w49.cell? ⟨gb1274, 0, none⟩ = some (.int .i64 a0_0) := (zK BK1274.out 0).trans rfl; have hcz50_1 : w49.cell? ⟨gb1274, 1, none⟩ = some (.int .i64 a0_1) := (zK BK1274.out 1).trans rfl; have hcz50_2 : w49.cell? ⟨gb1274, 2, none⟩ = some (.int .i64 a0_2) := (zK BK1274.out 2).trans rfl; have hcz50_3 : w49.cell? ⟨gb1274, 3, none⟩ = some (.int .i64 a0_3) := (zK BK1274.out 3).trans rfl; have hcz50_4 : w49.cell? ⟨gb1274, 4, none⟩ = some (.slice A0_4 l0_4.length c0_4) := (zK BK1274.out 4).trans rfl; have hcz50_5 : w49.cell? ⟨gb1274, 5, none⟩ = some (.int .i64 a0_5) := (zK BK1274.out 5).trans rfl; have hcz50_6 : w49.cell? ⟨gb1274, 6, none⟩ = some (.slice A0_6 l0_6.length c0_6) := (zK BK1274.out 6).trans rfl; have hcz50_7 : w49.cell? ⟨gb1274, 7, none⟩ = some (.int .i64 a0_7) := (zK BK1274.out 7).trans rfl; have hcz50_8 : w49.cell? ⟨gb1274, 8, none⟩ = some (.bool a0_8) := (zK BK1274.out 8).trans rfl; have hcz50_9 : w49.cell? ⟨gb1274, 9, none⟩ = some (.int .i64 a0_9) := (zK BK1274.out 9).trans rfl; have hcz50_10 : w49.cell? ⟨gb1274, 10, none⟩ = some (.int .i64 a0_10) := (zK BK1274.out 10).trans rfl) | (go_at_call 53; (with_reducible refine (impl_within.calls a0_5 0 a0_3 true _ A43.out).mono ?_); rintro e w' ⟨rfl, ⟨nd, rfl⟩⟩) | (go_at_call 98; (with_reducible refine (impl_isNoFeed.calls _ _ l0_6 a0_7 a0_8 a0_9 a0_10 true _ ?side1 ?side2 A45.out).mono ?_); (case side1 => repeat (first | exact (Kd.C_below HR0_6.out (by repeat (first | (with_reducible first | exact HB.out | apply zC | apply zB | apply zF | refine zE ?_ GE1274.out) | exact HB.out))) | (with_reducible refine yH ?_ _) | (with_reducible refine yF ?_ _) | (with_reducible refine yG ?_))); (case side2 => exact HC0_6.out); rintro e w51 ⟨rfl, hb⟩; have n0_ := zA (blk_below (g := gb1274) (o := .cells #[.int .i64 a0_0, .int .i64 a0_1, .int .i64 a0_2, .int .i64 a0_3, .slice A0_4 l0_4.length c0_4, .int .i64 a0_5, .slice A0_6 l0_6.length c0_6, .int .i64 a0_7, .bool a0_8, .int .i64 a0_9, .int .i64 a0_10] 86 (0, 0)) (by (with_reducible repeat (first | refine zG ?_ _ | refine zH ?_ | refine zD ?_ _)); exact BK1274.out) hb); have n1_ := zA (below_step (by repeat (first | (with_reducible first | exact HB.out | apply zC | apply zB | apply zF | refine zE ?_ GE1274.out) | exact HB.out)) hb); clear BK1274; clear HB; have BK1274 := n0_; have HB := n1_; clear n0_ n1_; (try clear hb); (try clear hb2); (try clear hk); (try clear hi); have hcz52_0 : w51.cell? ⟨gb1274, 0, none⟩ = some (.int .i64 a0_0) := (zK BK1274.out 0).trans rfl; have hcz52_1 : w51.cell? ⟨gb1274, 1, none⟩ = some (.int .i64 a0_1) := (zK BK1274.out 1).trans rfl; have hcz52_2 : w51.cell? ⟨gb1274, 2, none⟩ = some (.int .i64 a0_2) := (zK BK1274.out 2).trans rfl; have hcz52_3 : w51.cell? ⟨gb1274, 3, none⟩ = some (.int .i64 a0_3) := (zK BK1274.out 3).trans rfl; have hcz52_4 : w51.cell? ⟨gb1274, 4, none⟩ = some (.slice A0_4 l0_4.length c0_4) := (zK BK1274.out 4).trans rfl; have hcz52_5 : w51.cell? ⟨gb1274, 5, none⟩ = some (.int .i64 a0_5) := (zK BK1274.out 5).trans rfl; have hcz52_6 : w51.cell? ⟨gb1274, 6, none⟩ = some (.slice A0_6 l0_6.length c0_6) := (zK BK1274.out 6).trans rfl; have hcz52_7 : w51.cell? ⟨gb1274, 7, none⟩ = some (.int .i64 a0_7) := (zK BK1274.out 7).trans rfl; have hcz52_8 : w51.cell? ⟨gb1274, 8, none⟩ = some (.bool a0_8) := (zK BK1274.out 8).trans rfl; have hcz52_9 : w51.cell? ⟨gb1274, 9, none⟩ = some (.int .i64 a0_9) := (zK BK1274.out 9).trans rfl; have hcz52_10 : w51.cell? ⟨gb1274, 10, none⟩ = some (.int .i64 a0_10) := (zK BK1274.out 10).trans rfl))
          go_ret
          exact ⟨by first | rfl | (simp [errW_none, errW_some] <;> rfl) | (simp [*, errW_none, errW_some] <;> rfl), by repeat (first | (with_reducible first | exact HB.out | apply zC | apply zB | apply zF | refine zE ?_ GE1274.out) | exact HB.out)⟩
         ·rw [if_neg c47] at H
          have c47b0 : (a0_0 == 3) = false := beq_eq_false_iff_ne.mpr c47
          have c47b1 : (a0_0 != 3) = true := bne_iff_ne.mpr c47
          replace H := Option.bind_eq_some_iff.mp H
          obtain ⟨t1282, A530, H⟩ := H
          replace H : (some t1282) = some r := H
          have A53 := zA A530
          clear A530
          obtain rfl := Option.some.inj H
          have hcz54_0 : wc.cell? ⟨gb1274, 0, none⟩ = some (.int .i64 a0_0) := (zK BK1274.out 0).trans rfl
          have hcz54_1 : wc.cell? ⟨gb1274, 1, none⟩ = some (.int .i64 a0_1) := (zK BK1274.out 1).trans rfl
          have hcz54_2 : wc.cell? ⟨gb1274, 2, none⟩ = some (.int .i64 a0_2) := (zK BK1274.out 2).trans rfl
          have hcz54_3 : wc.cell? ⟨gb1274, 3, none⟩ = some (.int .i64 a0_3) := (zK BK1274.out 3).trans rfl
          have hcz54_4 : wc.cell? ⟨gb1274, 4, none⟩ = some (.slice A0_4 l0_4.length c0_4) := (zK BK1274.out 4).trans rfl
          have hcz54_5 : wc.cell? ⟨gb1274, 5, none⟩ = some (.int .i64 a0_5) := (zK BK1274.out 5).trans rfl
          have hcz54_6 : wc.cell? ⟨gb1274, 6, none⟩ = some (.slice A0_6 l0_6.length c0_6) := (zK BK1274.out 6).trans rfl
          have hcz54_7 : wc.cell? ⟨gb1274, 7, none⟩ = some (.int .i64 a0_7) := (zK BK1274.out 7).trans rfl
          have hcz54_8 : wc.cell? ⟨gb1274, 8, none⟩ = some (.bool a0_8) := (zK BK1274.out 8).trans rfl
          have hcz54_9 : wc.cell? ⟨gb1274, 9, none⟩ = some (.int .i64 a0_9) := (zK BK1274.out 9).trans rfl
          have hcz54_10 : wc.cell? ⟨gb1274, 10, none⟩ = some (.int .i64 a0_10) := (zK BK1274.out 10).trans rfl
          go_wp2_with (first | ((with_reducible refine gate_callee (f := 100) rfl ?_); refine goesL_ (some 40) rfl rfl Try.func100 (by kernel_rfl) rfl #[.agg #[.int .i64 a0_1, .int .i64 a0_2, .int .i64 a0_3, .slice A0_4 l0_4.length c0_4]] rfl (by (try simp only [zU, zV, zW]); first | done | rfl | (simp only [zR, zQ]; rfl)) ?_; (with_reducible refine (impl_PictureOk.calls kj35 a0_1 a0_2 a0_3 _ _ l0_4 true _ ?side1 ?side2 A41.out).mono ?_); (case side1 => repeat (first | exact (Kd.C_below HR0_4.out HB.out) | (with_reducible refine yH ?_ _) | (with_reducible refine yF ?_ _) | (with_reducible refine yG ?_))); (case side2 => exact HC0_4.out); rintro e w55 ⟨rfl, hb⟩; refine ⟨_, rfl, ?_⟩; have n0_ := zA (blk_below (g := gb1274) (o := .cells #[.int .i64 a0_0, .int .i64 a0_1, .int .i64 a0_2, .int .i64 a0_3, .slice A0_4 l0_4.length c0_4, .int .i64 a0_5, .slice A0_6 l0_6.length c0_6, .int .i64 a0_7, .bool a0_8, .int .i64 a0_9, .int .i64 a0_10] 86 (0, 0)) (by (with_reducible repeat (first | refine zG ?_ _ | refine zH ?_ | refine zD ?_ _)); exact BK1274.out) hb); have n1_ := zA (below_step (by repeat (first | (with_reducible first | exact HB.out | apply zC | apply zB | apply zF | refine zE ?_ GE1274.out) | exact HB.out)) hb); clear BK1274; clear HB; have BK1274 := n0_; have HB := n1_; clear n0_ n1_; (try clear hb); (try clear hb2); (try clear hk); (try clear hi); have hcz56_0 : w55.cell? ⟨gb1274, 0, none⟩ = some (.int .i64 a0_0) := (zK BK1274.out 0).trans rfl; have hcz56_1 : w55.cell? ⟨gb1274, 1, none⟩ = some (.int .i64 a0_1) := (zK BK1274.out 1).trans rfl; have hcz56_2 : w55.cell? ⟨gb1274, 2, none⟩ = some (.int .i64 a0_2) := (zK BK1274.out 2).trans rfl; have hcz56_3 : w55.cell? ⟨gb1274, 3, none⟩ = some (.int .i64 a0_3) := (zK BK1274.out 3).trans rfl; have hcz56_4 : w55.cell? ⟨gb1274, 4, none⟩ = some (.slice A0_4 l0_4.length c0_4) := (zK BK1274.out 4).trans rfl; have hcz56_5 : w55.cell? ⟨gb1274, 5, none⟩ = some (.int .i64 a0_5) := (zK BK1274.out 5).trans rfl; have hcz56_6 : w55.cell? ⟨gb1274, 6, none⟩ = some (.slice A0_6 l0_6.length c0_6) := (zK BK1274.out 6).trans rfl; have hcz56_7 : w55.cell? ⟨gb1274, 7, none⟩ = some (.int .i64 a0_7) := (zK BK1274.out 7).trans rfl; have hcz56_8 : w55.cell? ⟨gb1274, 8, none⟩ = some (.bool a0_8) := (zK BK1274.out 8).trans rfl; have hcz56_9 : w55.cell? ⟨gb1274, 9, none⟩ = some (.int .i64 a0_9) := (zK BK1274.out 9).trans rfl; have hcz56_10 : w55.cell? ⟨gb1274, 10, none⟩ = some (.int .i64 a0_10) := (zK BK1274.out 10).trans rfl) | (go_at_call 53; (with_reducible refine (impl_within.calls a0_5 0 a0_3 true _ A43.out).mono ?_); rintro e w' ⟨rfl, ⟨nd, rfl⟩⟩) | (go_at_call 98; (with_reducible refine (impl_isNoFeed.calls _ _ l0_6 a0_7 a0_8 a0_9 a0_10 true _ ?side1 ?side2 A45.out).mono ?_); (case side1 => repeat (first | exact (Kd.C_below HR0_6.out (by repeat (first | (with_reducible first | exact HB.out | apply zC | apply zB | apply zF | refine zE ?_ GE1274.out) | exact HB.out))) | (with_reducible refine yH ?_ _) | (with_reducible refine yF ?_ _) | (with_reducible refine yG ?_))); (case side2 => exact HC0_6.out); rintro e w57 ⟨rfl, hb⟩; have n0_ := zA (blk_below (g := gb1274) (o := .cells #[.int .i64 a0_0, .int .i64 a0_1, .int .i64 a0_2, .int .i64 a0_3, .slice A0_4 l0_4.length c0_4, .int .i64 a0_5, .slice A0_6 l0_6.length c0_6, .int .i64 a0_7, .bool a0_8, .int .i64 a0_9, .int .i64 a0_10] 86 (0, 0)) (by (with_reducible repeat (first | refine zG ?_ _ | refine zH ?_ | refine zD ?_ _)); exact BK1274.out) hb); have n1_ := zA (below_step (by repeat (first | (with_reducible first | exact HB.out | apply zC | apply zB | apply zF | refine zE ?_ GE1274.out) | exact HB.out)) hb); clear BK1274; clear HB; have BK1274 := n0_; have HB := n1_; clear n0_ n1_; (try clear hb); (try clear hb2); (try clear hk); (try clear hi); have hcz58_0 : w57.cell? ⟨gb1274, 0, none⟩ = some (.int .i64 a0_0) := (zK BK1274.out 0).trans rfl; have hcz58_1 : w57.cell? ⟨gb1274, 1, none⟩ = some (.int .i64 a0_1) := (zK BK1274.out 1).trans rfl; have hcz58_2 : w57.cell? ⟨gb1274, 2, none⟩ = some (.int .i64 a0_2) := (zK BK1274.out 2).trans rfl; have hcz58_3 : w57.cell? ⟨gb1274, 3, none⟩ = some (.int .i64 a0_3) := (zK BK1274.out 3).trans rfl; have hcz58_4 : w57.cell? ⟨gb1274, 4, none⟩ = some (.slice A0_4 l0_4.length c0_4) := (zK BK1274.out 4).trans rfl; have hcz58_5 : w57.cell? ⟨gb1274, 5, none⟩ = some (.int .i64 a0_5) := (zK BK1274.out 5).trans rfl; have hcz58_6 : w57.cell? ⟨gb1274, 6, none⟩ = some (.slice A0_6 l0_6.length c0_6) := (zK BK1274.out 6).trans rfl; have hcz58_7 : w57.cell? ⟨gb1274, 7, none⟩ = some (.int .i64 a0_7) := (zK BK1274.out 7).trans rfl; have hcz58_8 : w57.cell? ⟨gb1274, 8, none⟩ = some (.bool a0_8) := (zK BK1274.out 8).trans rfl; have hcz58_9 : w57.cell? ⟨gb1274, 9, none⟩ = some (.int .i64 a0_9) := (zK BK1274.out 9).trans rfl; have hcz58_10 : w57.cell? ⟨gb1274, 10, none⟩ = some (.int .i64 a0_10) := (zK BK1274.out 10).trans rfl) | (go_at_call 101; (with_reducible refine (impl_isEmptyFrom.calls kj35 a0_1 a0_2 a0_3 _ _ l0_4 a0_5 t1282 _ ?side1 ?side2 A53.out).mono ?_); (case side1 => repeat (first | exact (Kd.C_below HR0_4.out HB.out) | (with_reducible refine yH ?_ _) | (with_reducible refine yF ?_ _) | (with_reducible refine yG ?_))); (case side2 => exact HC0_4.out); rintro e w59 ⟨rfl, hb⟩; have n0_ := zA (blk_below (g := gb1274) (o := .cells #[.int .i64 a0_0, .int .i64 a0_1, .int .i64 a0_2, .int .i64 a0_3, .slice A0_4 l0_4.length c0_4, .int .i64 a0_5, .slice A0_6 l0_6.length c0_6, .int .i64 a0_7, .bool a0_8, .int .i64 a0_9, .int .i64 a0_10] 86 (0, 0)) (by (with_reducible repeat (first | refine zG ?_ _ | refine zH ?_ | refine zD ?_ _)); exact BK1274.out) hb); have n1_ := zA (below_step (by repeat (first | (with_reducible first | exact HB.out | apply zC | apply zB | apply zF | refine zE ?_ GE1274.out) | exact HB.out)) hb); clear BK1274; clear HB; have BK1274 := n0_; have HB := n1_; clear n0_ n1_; (try clear hb); (try clear hb2); (try clear hk); (try clear hi)))
          go_ret
          exact ⟨by first | rfl | (simp [errW_none, errW_some] <;> rfl) | (simp [*, errW_none, errW_some] <;> rfl), by repeat (first | (with_reducible first | exact HB.out | apply zC | apply zB | apply zF | refine zE ?_ GE1274.out) | exact HB.out)⟩
        ·replace c46 := Bool.eq_false_iff.mpr c46
         subst c46
         have H1 : (some false) = some r := by rw [if_neg (show ¬ (false = true) by decide)] at H; exact H
         clear H
         have H := H1
         clear H1
         obtain rfl := Option.some.inj H
         have hcz60_0 : wc.cell? ⟨gb1274, 0, none⟩ = some (.int .i64 a0_0) := (zK BK1274.out 0).trans rfl
         have hcz60_1 : wc.cell? ⟨gb1274, 1, none⟩ = some (.int .i64 a0_1) := (zK BK1274.out 1).trans rfl
         have hcz60_2 : wc.cell? ⟨gb1274, 2, none⟩ = some (.int .i64 a0_2) := (zK BK1274.out 2).trans rfl
         have hcz60_3 : wc.cell? ⟨gb1274, 3, none⟩ = some (.int .i64 a0_3) := (zK BK1274.out 3).trans rfl
         have hcz60_4 : wc.cell? ⟨gb1274, 4, none⟩ = some (.slice A0_4 l0_4.length c0_4) := (zK BK1274.out 4).trans rfl
         have hcz60_5 : wc.cell? ⟨gb1274, 5, none⟩ = some (.int .i64 a0_5) := (zK BK1274.out 5).trans rfl
         have hcz60_6 : wc.cell? ⟨gb1274, 6, none⟩ = some (.slice A0_6 l0_6.length c0_6) := (zK BK1274.out 6).trans rfl
         have hcz60_7 : wc.cell? ⟨gb1274, 7, none⟩ = some (.int .i64 a0_7) := (zK BK1274.out 7).trans rfl
         have hcz60_8 : wc.cell? ⟨gb1274, 8, none⟩ = some (.bool a0_8) := (zK BK1274.out 8).trans rfl
         have hcz60_9 : wc.cell? ⟨gb1274, 9, none⟩ = some (.int .i64 a0_9) := (zK BK1274.out 9).trans rfl
         have hcz60_10 : wc.cell? ⟨gb1274, 10, none⟩ = some (.int .i64 a0_10) := (zK BK1274.out 10).trans rfl
         go_wp2_with (first | ((with_reducible refine gate_callee (f := 100) rfl ?_); refine goesL_ (some 40) rfl rfl Try.func100 (by kernel_rfl) rfl #[.agg #[.int .i64 a0_1, .int .i64 a0_2, .int .i64 a0_3, .slice A0_4 l0_4.length c0_4]] rfl (by (try simp only [zU, zV, zW]); first | done | rfl | (simp only [zR, zQ]; rfl)) ?_; (with_reducible refine (impl_PictureOk.calls kj35 a0_1 a0_2 a0_3 _ _ l0_4 true _ ?side1 ?side2 A41.out).mono ?_); (case side1 => repeat (first | exact (Kd.C_below HR0_4.out HB.out) | (with_reducible refine yH ?_ _) | (with_reducible refine yF ?_ _) | (with_reducible refine yG ?_))); (case side2 => exact HC0_4.out); rintro e w61 ⟨rfl, hb⟩; refine ⟨_, rfl, ?_⟩; have n0_ := zA (blk_below (g := gb1274) (o := .cells #[.int .i64 a0_0, .int .i64 a0_1, .int .i64 a0_2, .int .i64 a0_3, .slice A0_4 l0_4.length c0_4, .int .i64 a0_5, .slice A0_6 l0_6.length c0_6, .int .i64 a0_7, .bool a0_8, .int .i64 a0_9, .int .i64 a0_10] 86 (0, 0)) (by (with_reducible repeat (first | refine zG ?_ _ | refine zH ?_ | refine zD ?_ _)); exact BK1274.out) hb); have n1_ := zA (below_step (by repeat (first | (with_reducible first | exact HB.out | apply zC | apply zB | apply zF | refine zE ?_ GE1274.out) | exact HB.out)) hb); clear BK1274; clear HB; have BK1274 := n0_; have HB := n1_; clear n0_ n1_; (try clear hb); (try clear hb2); (try clear hk); (try clear hi); have hcz62_0 : w61.cell? ⟨gb1274, 0, none⟩ = some (.int .i64 a0_0) := (zK BK1274.out 0).trans rfl; have hcz62_1 : w61.cell? ⟨gb1274, 1, none⟩ = some (.int .i64 a0_1) := (zK BK1274.out 1).trans rfl; have hcz62_2 : w61.cell? ⟨gb1274, 2, none⟩ = some (.int .i64 a0_2) := (zK BK1274.out 2).trans rfl; have hcz62_3 : w61.cell? ⟨gb1274, 3, none⟩ = some (.int .i64 a0_3) := (zK BK1274.out 3).trans rfl; have hcz62_4 : w61.cell? ⟨gb1274, 4, none⟩ = some (.slice A0_4 l0_4.length c0_4) := (zK BK1274.out 4).trans rfl; have hcz62_5 : w61.cell? ⟨gb1274, 5, none⟩ = some (.int .i64 a0_5) := (zK BK1274.out 5).trans rfl; have hcz62_6 : w61.cell? ⟨gb1274, 6, none⟩ = some (.slice A0_6 l0_6.length c0_6) := (zK BK1274.out 6).trans rfl; have hcz62_7 : w61.cell? ⟨gb1274, 7, none⟩ = some (.int .i64 a0_7) := (zK BK1274.out 7).trans rfl; have hcz62_8 : w61.cell? ⟨gb1274, 8, none⟩ = some (.bool a0_8) := (zK BK1274.out 8).trans rfl; have hcz62_9 : w61.cell? ⟨gb1274, 9, none⟩ = some (.int .i64 a0_9) := (zK BK1274.out 9).trans rfl; have hcz62_10 : w61.cell? ⟨gb1274, 10, none⟩ = some (.int .i64 a0_10) := (zK BK1274.out 10).trans rfl) | (go_at_call 53; (with_reducible refine (impl_within.calls a0_5 0 a0_3 true _ A43.out).mono ?_); rintro e w' ⟨rfl, ⟨nd, rfl⟩⟩) | (go_at_call 98; (with_reducible refine (impl_isNoFeed.calls _ _ l0_6 a0_7 a0_8 a0_9 a0_10 false _ ?side1 ?side2 A45.out).mono ?_); (case side1 => repeat (first | exact (Kd.C_below HR0_6.out (by repeat (first | (with_reducible first | exact HB.out | apply zC | apply zB | apply zF | refine zE ?_ GE1274.out) | exact HB.out))) | (with_reducible refine yH ?_ _) | (with_reducible refine yF ?_ _) | (with_reducible refine yG ?_))); (case side2 => exact HC0_6.out); rintro e w63 ⟨rfl, hb⟩; have n0_ := zA (blk_below (g := gb1274) (o := .cells #[.int .i64 a0_0, .int .i64 a0_1, .int .i64 a0_2, .int .i64 a0_3, .slice A0_4 l0_4.length c0_4, .int .i64 a0_5, .slice A0_6 l0_6.length c0_6, .int .i64 a0_7, .bool a0_8, .int .i64 a0_9, .int .i64 a0_10] 86 (0, 0)) (by (with_reducible repeat (first | refine zG ?_ _ | refine zH ?_ | refine zD ?_ _)); exact BK1274.out) hb); have n1_ := zA (below_step (by repeat (first | (with_reducible first | exact HB.out | apply zC | apply zB | apply zF | refine zE ?_ GE1274.out) | exact HB.out)) hb); clear BK1274; clear HB; have BK1274 := n0_; have HB := n1_; clear n0_ n1_; (try clear hb); (try clear hb2); (try clear hk); (try clear hi)))
         go_ret
         exact ⟨by first | rfl | (simp [errW_none, errW_some] <;> rfl) | (simp [*, errW_none, errW_some] <;> rfl), by repeat (first | (with_reducible first | exact HB.out | apply zC | apply zB | apply zF | refine zE ?_ GE1274.out) | exact HB.out)⟩
       ·replace c44 := Bool.eq_false_iff.mpr c44
        subst c44
        have H1 : (some false) = some r := by rw [if_neg (show ¬ (false = true) by decide)] at H; exact H
        clear H
        have H := H1
        clear H1
        obtain rfl := Option.some.inj H
        have hcz64_0 : wc.cell? ⟨gb1274, 0, none⟩ = some (.int .i64 a0_0) := (zK BK1274.out 0).trans rfl
        have hcz64_1 : wc.cell? ⟨gb1274, 1, none⟩ = some (.int .i64 a0_1) := (zK BK1274.out 1).trans rfl
        have hcz64_2 : wc.cell? ⟨gb1274, 2, none⟩ = some (.int .i64 a0_2) := (zK BK1274.out 2).trans rfl
        have hcz64_3 : wc.cell? ⟨gb1274, 3, none⟩ = some (.int .i64 a0_3) := (zK BK1274.out 3).trans rfl
        have hcz64_4 : wc.cell? ⟨gb1274, 4, none⟩ = some (.slice A0_4 l0_4.length c0_4) := (zK BK1274.out 4).trans rfl
        have hcz64_5 : wc.cell? ⟨gb1274, 5, none⟩ = some (.int .i64 a0_5) := (zK BK1274.out 5).trans rfl
        have hcz64_6 : wc.cell? ⟨gb1274, 6, none⟩ = some (.slice A0_6 l0_6.length c0_6) := (zK BK1274.out 6).trans rfl
        have hcz64_7 : wc.cell? ⟨gb1274, 7, none⟩ = some (.int .i64 a0_7) := (zK BK1274.out 7).trans rfl
        have hcz64_8 : wc.cell? ⟨gb1274, 8, none⟩ = some (.bool a0_8) := (zK BK1274.out 8).trans rfl
        have hcz64_9 : wc.cell? ⟨gb1274, 9, none⟩ = some (.int .i64 a0_9) := (zK BK1274.out 9).trans rfl
        have hcz64_10 : wc.cell? ⟨gb1274, 10, none⟩ = some (.int .i64 a0_10) := (zK BK1274.out 10).trans rfl
        go_wp2_with (first | ((with_reducible refine gate_callee (f := 100) rfl ?_); refine goesL_ (some 40) rfl rfl Try.func100 (by kernel_rfl) rfl #[.agg #[.int .i64 a0_1, .int .i64 a0_2, .int .i64 a0_3, .slice A0_4 l0_4.length c0_4]] rfl (by (try simp only [zU, zV, zW]); first | done | rfl | (simp only [zR, zQ]; rfl)) ?_; (with_reducible refine (impl_PictureOk.calls kj35 a0_1 a0_2 a0_3 _ _ l0_4 true _ ?side1 ?side2 A41.out).mono ?_); (case side1 => repeat (first | exact (Kd.C_below HR0_4.out HB.out) | (with_reducible refine yH ?_ _) | (with_reducible refine yF ?_ _) | (with_reducible refine yG ?_))); (case side2 => exact HC0_4.out); rintro e w65 ⟨rfl, hb⟩; refine ⟨_, rfl, ?_⟩; have n0_ := zA (blk_below (g := gb1274) (o := .cells #[.int .i64 a0_0, .int .i64 a0_1, .int .i64 a0_2, .int .i64 a0_3, .slice A0_4 l0_4.length c0_4, .int .i64 a0_5, .slice A0_6 l0_6.length c0_6, .int .i64 a0_7, .bool a0_8, .int .i64 a0_9, .int .i64 a0_10] 86 (0, 0)) (by (with_reducible repeat (first | refine zG ?_ _ | refine zH ?_ | refine zD ?_ _)); exact BK1274.out) hb); have n1_ := zA (below_step (by repeat (first | (with_reducible first | exact HB.out | apply zC | apply zB | apply zF | refine zE ?_ GE1274.out) | exact HB.out)) hb); clear BK1274; clear HB; have BK1274 := n0_; have HB := n1_; clear n0_ n1_; (try clear hb); (try clear hb2); (try clear hk); (try clear hi); have hcz66_0 : w65.cell? ⟨gb1274, 0, none⟩ = some (.int .i64 a0_0) := (zK BK1274.out 0).trans rfl; have hcz66_1 : w65.cell? ⟨gb1274, 1, none⟩ = some (.int .i64 a0_1) := (zK BK1274.out 1).trans rfl; have hcz66_2 : w65.cell? ⟨gb1274, 2, none⟩ = some (.int .i64 a0_2) := (zK BK1274.out 2).trans rfl; have hcz66_3 : w65.cell? ⟨gb1274, 3, none⟩ = some (.int .i64 a0_3) := (zK BK1274.out 3).trans rfl; have hcz66_4 : w65.cell? ⟨gb1274, 4, none⟩ = some (.slice A0_4 l0_4.length c0_4) := (zK BK1274.out 4).trans rfl; have hcz66_5 : w65.cell? ⟨gb1274, 5, none⟩ = some (.int .i64 a0_5) := (zK BK1274.out 5).trans rfl; have hcz66_6 : w65.cell? ⟨gb1274, 6, none⟩ = some (.slice A0_6 l0_6.length c0_6) := (zK BK1274.out 6).trans rfl; have hcz66_7 : w65.cell? ⟨gb1274, 7, none⟩ = some (.int .i64 a0_7) := (zK BK1274.out 7).trans rfl; have hcz66_8 : w65.cell? ⟨gb1274, 8, none⟩ = some (.bool a0_8) := (zK BK1274.out 8).trans rfl; have hcz66_9 : w65.cell? ⟨gb1274, 9, none⟩ = some (.int .i64 a0_9) := (zK BK1274.out 9).trans rfl; have hcz66_10 : w65.cell? ⟨gb1274, 10, none⟩ = some (.int .i64 a0_10) := (zK BK1274.out 10).trans rfl) | (go_at_call 53; (with_reducible refine (impl_within.calls a0_5 0 a0_3 false _ A43.out).mono ?_); rintro e w' ⟨rfl, ⟨nd, rfl⟩⟩))
        go_ret
        exact ⟨by first | rfl | (simp [errW_none, errW_some] <;> rfl) | (simp [*, errW_none, errW_some] <;> rfl), by repeat (first | (with_reducible first | exact HB.out | apply zC | apply zB | apply zF | refine zE ?_ GE1274.out) | exact HB.out)⟩
      ·replace c42 := Bool.eq_false_iff.mpr c42
       subst c42
       have H1 : (some false) = some r := by rw [if_neg (show ¬ (false = true) by decide)] at H; exact H
       clear H
       have H := H1
       clear H1
       obtain rfl := Option.some.inj H
       have hcz67_0 : wc.cell? ⟨gb1274, 0, none⟩ = some (.int .i64 a0_0) := (zK BK1274.out 0).trans rfl
       have hcz67_1 : wc.cell? ⟨gb1274, 1, none⟩ = some (.int .i64 a0_1) := (zK BK1274.out 1).trans rfl
       have hcz67_2 : wc.cell? ⟨gb1274, 2, none⟩ = some (.int .i64 a0_2) := (zK BK1274.out 2).trans rfl
       have hcz67_3 : wc.cell? ⟨gb1274, 3, none⟩ = some (.int .i64 a0_3) := (zK BK1274.out 3).trans rfl
       have hcz67_4 : wc.cell? ⟨gb1274, 4, none⟩ = some (.slice A0_4 l0_4.length c0_4) := (zK BK1274.out 4).trans rfl
       have hcz67_5 : wc.cell? ⟨gb1274, 5, none⟩ = some (.int .i64 a0_5) := (zK BK1274.out 5).trans rfl
       have hcz67_6 : wc.cell? ⟨gb1274, 6, none⟩ = some (.slice A0_6 l0_6.length c0_6) := (zK BK1274.out 6).trans rfl
       have hcz67_7 : wc.cell? ⟨gb1274, 7, none⟩ = some (.int .i64 a0_7) := (zK BK1274.out 7).trans rfl
       have hcz67_8 : wc.cell? ⟨gb1274, 8, none⟩ = some (.bool a0_8) := (zK BK1274.out 8).trans rfl
       have hcz67_9 : wc.cell? ⟨gb1274, 9, none⟩ = some (.int .i64 a0_9) := (zK BK1274.out 9).trans rfl
       have hcz67_10 : wc.cell? ⟨gb1274, 10, none⟩ = some (.int .i64 a0_10) := (zK BK1274.out 10).trans rfl
       go_wp2_with (first | ((with_reducible refine gate_callee (f := 100) rfl ?_); refine goesL_ (some 40) rfl rfl Try.func100 (by kernel_rfl) rfl #[.agg #[.int .i64 a0_1, .int .i64 a0_2, .int .i64 a0_3, .slice A0_4 l0_4.length c0_4]] rfl (by (try simp only [zU, zV, zW]); first | done | rfl | (simp only [zR, zQ]; rfl)) ?_; (with_reducible refine (impl_PictureOk.calls kj35 a0_1 a0_2 a0_3 _ _ l0_4 false _ ?side1 ?side2 A41.out).mono ?_); (case side1 => repeat (first | exact (Kd.C_below HR0_4.out HB.out) | (with_reducible refine yH ?_ _) | (with_reducible refine yF ?_ _) | (with_reducible refine yG ?_))); (case side2 => exact HC0_4.out); rintro e w68 ⟨rfl, hb⟩; refine ⟨_, rfl, ?_⟩; have n0_ := zA (blk_below (g := gb1274) (o := .cells #[.int .i64 a0_0, .int .i64 a0_1, .int .i64 a0_2, .int .i64 a0_3, .slice A0_4 l0_4.length c0_4, .int .i64 a0_5, .slice A0_6 l0_6.length c0_6, .int .i64 a0_7, .bool a0_8, .int .i64 a0_9, .int .i64 a0_10] 86 (0, 0)) (by (with_reducible repeat (first | refine zG ?_ _ | refine zH ?_ | refine zD ?_ _)); exact BK1274.out) hb); have n1_ := zA (below_step (by repeat (first | (with_reducible first | exact HB.out | apply zC | apply zB | apply zF | refine zE ?_ GE1274.out) | exact HB.out)) hb); clear BK1274; clear HB; have BK1274 := n0_; have HB := n1_; clear n0_ n1_; (try clear hb); (try clear hb2); (try clear hk); (try clear hi)))
       go_ret
       exact ⟨by first | rfl | (simp [errW_none, errW_some] <;> rfl) | (simp [*, errW_none, errW_some] <;> rfl), by repeat (first | (with_reducible first | exact HB.out | apply zC | apply zB | apply zF | refine zE ?_ GE1274.out) | exact HB.out)⟩
     ·replace c40 := Bool.eq_false_iff.mpr c40
      subst c40
      have H1 : (some false) = some r := by rw [if_neg (show ¬ (false = true) by decide)] at H; exact H
      clear H
      have H := H1
      clear H1
      obtain rfl := Option.some.inj H
      go_wp2
      go_ret
      exact ⟨by first | rfl | (simp [errW_none, errW_some] <;> rfl) | (simp [*, errW_none, errW_some] <;> rfl), by repeat (first | (with_reducible first | exact HB.out | apply zC | apply zB | apply zF | refine zE ?_ GE1274.out) | exact HB.out)⟩
theorem impl_isNoPicture.val (p w h : Int) (pl : List (List Int)) : impl_isNoPicture.f p w h pl = some (noPic p w h pl) := by
 unfold impl_isNoPicture.f noPic
 by_cases h1 : p = 0
 ·by_cases h2 : w = 0
  ·by_cases h3 : h = 0
   ·rw [if_pos h1, if_pos h2, if_pos h3, zT h1, zT h2, zT h3, Bool.true_and, Bool.true_and, Bool.true_and]
    congr 1
    rw [Bool.eq_iff_iff, beq_iff_eq, decide_eq_true_eq]; omega
   ·rw [if_pos h1, if_pos h2, if_neg h3, decide_eq_false h3, Bool.false_and, Bool.and_false, Bool.and_false]
  ·rw [if_pos h1, if_neg h2, decide_eq_false h2, Bool.false_and, Bool.and_false]
 ·rw [if_neg h1, decide_eq_false h1, Bool.false_and]
theorem impl_isNoFeed.val (l : List Int) (n : Int) (o : Bool) (fc fa : Int) : impl_isNoFeed.f l n o fc fa = some (noFeed l n o fc fa) := by
 unfold impl_isNoFeed.f noFeed
 by_cases h1 : l.length = 0
 ·by_cases h2 : n = 0
  ·rw [if_pos (by omega), if_pos h2, zT h1, zT h2, Bool.true_and, Bool.true_and]
   cases o with
   | true => rw [if_pos rfl]; rfl
   | false => rw [if_neg Bool.false_ne_true]; rfl
  ·rw [if_pos (by omega), if_neg h2, decide_eq_false h2, Bool.false_and, Bool.and_false]
 ·rw [if_neg (by omega), decide_eq_false h1, Bool.false_and]
theorem impl_DeskOk.j0_ev (b : Bool) (st p w h : Int) (pl : List (List Int)) (row : Int) (l : List Int) (n : Int) (o : Bool) (fc fa : Int) :
  Ev (fun k => impl_DeskOk.j0 k b st p w h pl row l n o fc fa) (b && (picOkM p w h pl && ((decide (0 ≤ row) && decide (row ≤ h)) && (noFeed l n o fc fa && (decide (st = 3) || emptyFrom (row * w) pl))))) := by
 refine Ev.step (fun _ => by rw [impl_DeskOk.j0]) ?_
 cases b with
 | false => exact Ev.ng (by simp) (Ev.now _)
 | true =>
  refine Ev.ip rfl (Ev.bind (impl_PictureOk.ev p w h pl) ?_)
  rw [Bool.true_and]
  by_cases h1 : picOkM p w h pl = true
  ·refine Ev.ip h1 (Ev.bind (Ev.c (impl_within.val _ _ _)) ?_)
   rw [h1, Bool.true_and]
   obtain ⟨q, q1, q2, q3⟩ := picOk_of h1
   by_cases h2 : (decide (0 ≤ row) && decide (row ≤ h)) = true
   ·refine Ev.ip h2 (Ev.bind (Ev.c (impl_isNoFeed.val _ _ _ _ _)) ?_)
    rw [h2, Bool.true_and]
    by_cases h3 : noFeed l n o fc fa = true
    ·refine Ev.ip h3 ?_
     rw [h3, Bool.true_and]
     by_cases h4 : st = 3
     ·refine Ev.ip h4 (Ev.eq (Ev.now _) ?_)
      rw [zT h4, Bool.true_or]
     ·refine Ev.ng h4 ?_
      rw [decide_eq_false h4, Bool.false_or]
      simp only [Bool.and_eq_true, decide_eq_true_eq] at h2
      have hr := row_in q h2.1 h2.2
      have ha := q.a2
      exact Ev.bind (impl_isEmptyFrom.ev p w h row pl hr.1 (by omega) q2 (fun x hx => by have := q3 x hx; omega)) (Ev.now _)
    ·refine Ev.ng h3 (Ev.eq (Ev.now _) ?_)
     rw [Bool.eq_false_iff.2 h3, Bool.false_and]
   ·refine Ev.ng h2 (Ev.eq (Ev.now _) ?_)
    rw [Bool.eq_false_iff.2 h2, Bool.false_and]
  ·refine Ev.ng h1 (Ev.eq (Ev.now _) ?_)
   rw [Bool.eq_false_iff.2 h1, Bool.false_and]
theorem impl_DeskOk.ev (st p w h : Int) (pl : List (List Int)) (row : Int) (l : List Int) (n : Int) (o : Bool) (fc fa : Int) (hB : isB l = true) (hl : l.length ≤ 1048576) :
  Ev (fun k => impl_DeskOk.f k st p w h pl row l n o fc fa) (deskM st p w h pl row l n o fc fa) := by
 unfold impl_DeskOk.f deskM
 by_cases h0 : st = 0
 ·rw [if_pos h0]
  refine Ev.ip h0 (Ev.bind (Ev.c (impl_isNoPicture.val _ _ _ _)) ?_)
  by_cases h1 : noPic p w h pl = true
  ·refine Ev.ip h1 ?_
   rw [h1, Bool.true_and]
   by_cases h2 : row = 0
   ·refine Ev.ip h2 (Ev.bind (Ev.c (impl_isNoFeed.val _ _ _ _ _)) (Ev.eq (Ev.now _) ?_))
    rw [zT h2, Bool.true_and]
   ·refine Ev.ng h2 (Ev.eq (Ev.now _) ?_)
    rw [decide_eq_false h2, Bool.false_and]
  ·refine Ev.ng h1 (Ev.eq (Ev.now _) ?_)
   rw [Bool.eq_false_iff.2 h1, Bool.false_and]
 ·rw [if_neg h0]
  refine Ev.ng h0 ?_
  by_cases h2 : st = 2
  ·rw [if_pos h2]
   refine Ev.ip h2 (Ev.bind (Ev.c (impl_isNoPicture.val _ _ _ _)) ?_)
   by_cases h1 : noPic p w h pl = true
   ·refine Ev.ip h1 ?_
    rw [h1, Bool.true_and]
    by_cases h2 : row = 0
    ·refine Ev.ip h2 (Ev.bind (Ev.c (show impl_FeedOk.f l n o fc fa = some (feedOkM l n o fc fa) by unfold impl_FeedOk.f; rw [if_pos ⟨hB, hl⟩])) (Ev.eq (Ev.now _) ?_))
     rw [zT h2, Bool.true_and]
    ·refine Ev.ng h2 (Ev.eq (Ev.now _) ?_)
     rw [decide_eq_false h2, Bool.false_and]
   ·refine Ev.ng h1 (Ev.eq (Ev.now _) ?_)
    rw [Bool.eq_false_iff.2 h1, Bool.false_and]
  ·rw [if_neg h2]
   refine Ev.ng h2 ?_
   by_cases h1 : st = 1
   ·rw [if_pos h1]
    refine Ev.ip h1 (Ev.eq (impl_DeskOk.j0_ev _ st p w h pl row l n o fc fa) ?_)
    rw [h1]; rfl
   ·rw [if_neg h1]
    refine Ev.ng h1 (Ev.eq (impl_DeskOk.j0_ev _ st p w h pl row l n o fc fa) ?_)
    by_cases h3 : st = 3
    ·rw [if_pos h3, zT h3, Bool.true_or, Bool.and_true, h3]; rfl
    ·rw [if_neg h3, show (st == 3) = false from beq_eq_false_iff_ne.2 h3, Bool.false_and]
end Go.Proofs.Ytilimpjcdeeaiaa.G


namespace Go.Proofs.Ytilimpjcdeeaiaa.G
open Go.RowKit Go.Proofs.YtilimpjcdeeaiaaW.PrintWords Go.Proofs.YtilimpjcdeeaiaaW.PrintLast Go.Proofs.YtilimpjcdeeaiaaW.PrintMore
attribute [local go_sem] max2_int min2_int max_two min_two max_three min_three max_four min_four   -- for this text's walks alone
def laws_eqDesk.f (k : Nat) (a0_0 : Int) (a0_1 : Int) (a0_2 : Int) (a0_3 : Int) (l0_4 : List (List Int)) (a0_5 : Int) (l0_6 : List Int) (a0_7 : Int) (a0_8 : Bool) (a0_9 : Int) (a0_10 : Int) (a1_0 : Int) (a1_1 : Int) (a1_2 : Int) (a1_3 : Int) (l1_4 : List (List Int)) (a1_5 : Int) (l1_6 : List Int) (a1_7 : Int) (a1_8 : Bool) (a1_9 : Int) (a1_10 : Int) : Option (Bool) := if a0_0 = a1_0 then ((laws_eqPicture.f k a0_1 a0_2 a0_3 l0_4 a1_1 a1_2 a1_3 l1_4).bind fun t1292 => (if t1292 = true then (if a0_5 = a1_5 then ((laws_eqFeed.f k l0_6 a0_7 a0_8 a0_9 a0_10 l1_6 a1_7 a1_8 a1_9 a1_10).bind fun t1293 => (if t1293 = true then (some true) else (some false))) else (some false)) else (some false))) else (some false)
theorem laws_eqDesk.mono : ∀ a0 a1 a2 a3 a4 a5 a6 a7 a8 a9 a10 a11 a12 a13 a14 a15 a16 a17 a18 a19 a20 a21 k, LeO (laws_eqDesk.f k a0 a1 a2 a3 a4 a5 a6 a7 a8 a9 a10 a11 a12 a13 a14 a15 a16 a17 a18 a19 a20 a21) (laws_eqDesk.f (k + 1) a0 a1 a2 a3 a4 a5 a6 a7 a8 a9 a10 a11 a12 a13 a14 a15 a16 a17 a18 a19 a20 a21) := by
 intro a0 a1 a2 a3 a4 a5 a6 a7 a8 a9 a10 a11 a12 a13 a14 a15 a16 a17 a18 a19 a20 a21 k
 unfold laws_eqDesk.f
 repeat' first
   | (with_reducible exact laws_eqFeed.mono _ _ _ _ _ _ _ _ _ _ _)
   | (with_reducible exact laws_eqPicture.mono _ _ _ _ _ _ _ _ _)
   | (with_reducible exact LeO.refl _)
   | (with_reducible exact LeO.none _)
   | (with_reducible refine LeO.ite ?_ ?_)
   | (with_reducible refine LeO.bind ?_ (fun _ => ?_))
   | exact laws_eqFeed.mono _ _ _ _ _ _ _ _ _ _ _
   | exact laws_eqPicture.mono _ _ _ _ _ _ _ _ _
   | exact LeO.none _
   | refine LeO.ite ?_ ?_
   | refine LeO.bind ?_ (fun _ => ?_)
set_option maxHeartbeats 8000000 in
set_option maxRecDepth 100000 in
theorem laws_eqDesk.calls (k : Nat) (a0_0 : Int) (a0_1 : Int) (a0_2 : Int) (a0_3 : Int) (A0_4 : Option Addr) (c0_4 : Nat) (l0_4 : List (List Int)) (a0_5 : Int) (A0_6 : Option Addr) (c0_6 : Nat) (l0_6 : List Int) (a0_7 : Int) (a0_8 : Bool) (a0_9 : Int) (a0_10 : Int) (a1_0 : Int) (a1_1 : Int) (a1_2 : Int) (a1_3 : Int) (A1_4 : Option Addr) (c1_4 : Nat) (l1_4 : List (List Int)) (a1_5 : Int) (A1_6 : Option Addr) (c1_6 : Nat) (l1_6 : List Int) (a1_7 : Int) (a1_8 : Bool) (a1_9 : Int) (a1_10 : Int) (r : Bool) (w : World) (hr0_4 : Kd.C (Kd.slice 3 (Kd.int .i64)) w A0_4 l0_4.length l0_4) (hc0_4 : l0_4.length ≤ c0_4) (hr0_6 : Kd.C (Kd.int .u8) w A0_6 l0_6.length l0_6) (hc0_6 : l0_6.length ≤ c0_6) (hr1_4 : Kd.C (Kd.slice 3 (Kd.int .i64)) w A1_4 l1_4.length l1_4) (hc1_4 : l1_4.length ≤ c1_4) (hr1_6 : Kd.C (Kd.int .u8) w A1_6 l1_6.length l1_6) (hc1_6 : l1_6.length ≤ c1_6) (h : laws_eqDesk.f k a0_0 a0_1 a0_2 a0_3 l0_4 a0_5 l0_6 a0_7 a0_8 a0_9 a0_10 a1_0 a1_1 a1_2 a1_3 l1_4 a1_5 l1_6 a1_7 a1_8 a1_9 a1_10 = some r) :
  Calls Try.prog 45 #[.agg #[.int .i64 a0_0, .int .i64 a0_1, .int .i64 a0_2, .int .i64 a0_3, .slice A0_4 l0_4.length c0_4, .int .i64 a0_5, .slice A0_6 l0_6.length c0_6, .int .i64 a0_7, .bool a0_8, .int .i64 a0_9, .int .i64 a0_10], .agg #[.int .i64 a1_0, .int .i64 a1_1, .int .i64 a1_2, .int .i64 a1_3, .slice A1_4 l1_4.length c1_4, .int .i64 a1_5, .slice A1_6 l1_6.length c1_6, .int .i64 a1_7, .bool a1_8, .int .i64 a1_9, .int .i64 a1_10]] w fun e w' => e = .returned (.bool r) ∧ Below w.heap.size w w' := by
 have hu86 := Try.underlying86
 have hu81 := Try.underlying81
 have hu84 := Try.underlying84
 have HR0_4 := zA hr0_4
 have HC0_4 := zA hc0_4
 clear hr0_4 hc0_4
 have HR0_6 := zA hr0_6
 have HC0_6 := zA hc0_6
 clear hr0_6 hc0_6
 have HR1_4 := zA hr1_4
 have HC1_4 := zA hc1_4
 clear hr1_4 hc1_4
 have HR1_6 := zA hr1_6
 have HC1_6 := zA hc1_6
 clear hr1_6 hc1_6
 have HB := zA (Below.refl w.heap.size w)
 have H : (if a0_0 = a1_0 then ((laws_eqPicture.f k a0_1 a0_2 a0_3 l0_4 a1_1 a1_2 a1_3 l1_4).bind fun t1292 => (if t1292 = true then (if a0_5 = a1_5 then ((laws_eqFeed.f k l0_6 a0_7 a0_8 a0_9 a0_10 l1_6 a1_7 a1_8 a1_9 a1_10).bind fun t1293 => (if t1293 = true then (some true) else (some false))) else (some false)) else (some false))) else (some false)) = some r := h
 clear h
 by_cases c3 : a0_0 = a1_0
 ·rw [if_pos c3] at H
  have c3b0 : (a0_0 == a1_0) = true := beq_iff_eq.mpr c3
  have c3b1 : (a0_0 != a1_0) = false := bne_eq_false_iff_eq.mpr c3
  clear c3
  replace H := Option.bind_eq_some_iff.mp H
  obtain ⟨t1292, A40, H⟩ := H
  replace H : (if t1292 = true then (if a0_5 = a1_5 then ((laws_eqFeed.f k l0_6 a0_7 a0_8 a0_9 a0_10 l1_6 a1_7 a1_8 a1_9 a1_10).bind fun t1293 => (if t1293 = true then (some true) else (some false))) else (some false)) else (some false)) = some r := H
  have A4 := zA A40
  clear A40
  by_cases c5 : t1292 = true
  ·subst c5
   have H1 : (if a0_5 = a1_5 then ((laws_eqFeed.f k l0_6 a0_7 a0_8 a0_9 a0_10 l1_6 a1_7 a1_8 a1_9 a1_10).bind fun t1293 => (if t1293 = true then (some true) else (some false))) else (some false)) = some r := by rw [if_pos rfl] at H; exact H
   clear H
   have H := H1
   clear H1
   by_cases c6 : a0_5 = a1_5
   ·rw [if_pos c6] at H
    have c6b0 : (a0_5 == a1_5) = true := beq_iff_eq.mpr c6
    have c6b1 : (a0_5 != a1_5) = false := bne_eq_false_iff_eq.mpr c6
    clear c6
    replace H := Option.bind_eq_some_iff.mp H
    obtain ⟨t1293, A70, H⟩ := H
    replace H : (if t1293 = true then (some true) else (some false)) = some r := H
    have A7 := zA A70
    clear A70
    by_cases c8 : t1293 = true
    ·subst c8
     have H1 : (some true) = some r := by rw [if_pos rfl] at H; exact H
     clear H
     have H := H1
     clear H1
     obtain rfl := Option.some.inj H
     go_enter Try.func45, Try.ntmps45
     go_wp2_with (first | ((with_reducible refine gate_dst (N := 2) rfl ?_); refine box_event ?hg (N := 2) ?hd (cs := #[.int .i64 a0_0, .int .i64 a0_1, .int .i64 a0_2, .int .i64 a0_3, .slice A0_4 l0_4.length c0_4, .int .i64 a0_5, .slice A0_6 l0_6.length c0_6, .int .i64 a0_7, .bool a0_8, .int .i64 a0_9, .int .i64 a0_10]) (t := 86) ?hr ?_; (case hd => rfl); (case hg => rfl); (case hr => first | (go_simp; done) | (go_simp; rfl)); intro gb1290 hg w9 hbox hb; have n0_ := zA (below_step (by repeat (first | (with_reducible first | exact HB.out | apply zC | apply zB | apply zF) | exact HB.out)) hb); have n1_ := zA (hbox); have n2_ := zA ((by rw [hg]; exact (zL (by repeat (first | (with_reducible first | exact HB.out | apply zC | apply zB | apply zF) | exact HB.out))) : w.heap.size ≤ gb1290)); have n3_ := zA ((by rw [hg]; exact (zL (by repeat (first | (with_reducible first | exact HB.out | apply zC | apply zB | apply zF) | exact HB.out))) : w.heap.size ≤ gb1290)); clear HB; have HB := n0_; have BK1290 := n1_; have GW1290 := n2_; have GE1290 := n3_; clear n0_ n1_ n2_ n3_; clear hb hbox hg) | ((with_reducible refine gate_dst (N := 3) rfl ?_); refine box_event ?hg (N := 3) ?hd (cs := #[.int .i64 a1_0, .int .i64 a1_1, .int .i64 a1_2, .int .i64 a1_3, .slice A1_4 l1_4.length c1_4, .int .i64 a1_5, .slice A1_6 l1_6.length c1_6, .int .i64 a1_7, .bool a1_8, .int .i64 a1_9, .int .i64 a1_10]) (t := 86) ?hr ?_; (case hd => rfl); (case hg => rfl); (case hr => first | (go_simp; done) | (go_simp; rfl)); intro gb1291 hg w10 hbox hb; have n0_ := zA (blk_below (g := gb1290) (o := .cells #[.int .i64 a0_0, .int .i64 a0_1, .int .i64 a0_2, .int .i64 a0_3, .slice A0_4 l0_4.length c0_4, .int .i64 a0_5, .slice A0_6 l0_6.length c0_6, .int .i64 a0_7, .bool a0_8, .int .i64 a0_9, .int .i64 a0_10] 86 (0, 0)) (by (with_reducible repeat (first | refine zG ?_ _ | refine zH ?_ | refine zD ?_ _)); exact BK1290.out) hb); have n1_ := zA (below_step (by repeat (first | (with_reducible first | exact HB.out | apply zC | apply zB | apply zF | refine zE ?_ GE1290.out) | exact HB.out)) hb); have n2_ := zA (hbox); have n3_ := zA ((by rw [hg]; exact (zL (by repeat (first | (with_reducible first | exact HB.out | apply zC | apply zB | apply zF | refine zE ?_ GE1290.out) | exact HB.out))) : w.heap.size ≤ gb1291)); have n4_ := zA ((by rw [hg]; exact (zL (by repeat (first | (with_reducible first | exact HB.out | apply zC | apply zB | apply zF | refine zE ?_ GE1290.out) | exact HB.out))) : w.heap.size ≤ gb1291)); have n5_ := zA ((by rw [hg]; exact Nat.ne_of_lt (blk_lt (g := gb1290) (o := .cells #[.int .i64 a0_0, .int .i64 a0_1, .int .i64 a0_2, .int .i64 a0_3, .slice A0_4 l0_4.length c0_4, .int .i64 a0_5, .slice A0_6 l0_6.length c0_6, .int .i64 a0_7, .bool a0_8, .int .i64 a0_9, .int .i64 a0_10] 86 (0, 0)) (by (with_reducible repeat (first | refine zG ?_ _ | refine zH ?_ | refine zD ?_ _)); exact BK1290.out)) : gb1290 ≠ gb1291)); have n6_ := zA ((by rw [hg]; exact Nat.ne_of_gt (blk_lt (g := gb1290) (o := .cells #[.int .i64 a0_0, .int .i64 a0_1, .int .i64 a0_2, .int .i64 a0_3, .slice A0_4 l0_4.length c0_4, .int .i64 a0_5, .slice A0_6 l0_6.length c0_6, .int .i64 a0_7, .bool a0_8, .int .i64 a0_9, .int .i64 a0_10] 86 (0, 0)) (by (with_reducible repeat (first | refine zG ?_ _ | refine zH ?_ | refine zD ?_ _)); exact BK1290.out)) : gb1291 ≠ gb1290)); clear BK1290; clear HB; have BK1290 := n0_; have HB := n1_; have BK1291 := n2_; have GW1291 := n3_; have GE1291 := n4_; have NB1290_1291 := n5_; have NB1291_1290 := n6_; clear n0_ n1_ n2_ n3_ n4_ n5_ n6_; clear hb hbox hg; have hnb11 := NB1290_1291.out; have hnc11 := NB1291_1290.out; have hcz12_0 : w10.cell? ⟨gb1290, 0, none⟩ = some (.int .i64 a0_0) := (zK BK1290.out 0).trans rfl; have hcz12_1 : w10.cell? ⟨gb1290, 1, none⟩ = some (.int .i64 a0_1) := (zK BK1290.out 1).trans rfl; have hcz12_2 : w10.cell? ⟨gb1290, 2, none⟩ = some (.int .i64 a0_2) := (zK BK1290.out 2).trans rfl; have hcz12_3 : w10.cell? ⟨gb1290, 3, none⟩ = some (.int .i64 a0_3) := (zK BK1290.out 3).trans rfl; have hcz12_4 : w10.cell? ⟨gb1290, 4, none⟩ = some (.slice A0_4 l0_4.length c0_4) := (zK BK1290.out 4).trans rfl; have hcz12_5 : w10.cell? ⟨gb1290, 5, none⟩ = some (.int .i64 a0_5) := (zK BK1290.out 5).trans rfl; have hcz12_6 : w10.cell? ⟨gb1290, 6, none⟩ = some (.slice A0_6 l0_6.length c0_6) := (zK BK1290.out 6).trans rfl; have hcz12_7 : w10.cell? ⟨gb1290, 7, none⟩ = some (.int .i64 a0_7) := (zK BK1290.out 7).trans rfl; have hcz12_8 : w10.cell? ⟨gb1290, 8, none⟩ = some (.bool a0_8) := (zK BK1290.out 8).trans rfl; have hcz12_9 : w10.cell? ⟨gb1290, 9, none⟩ = some (.int .i64 a0_9) := (zK BK1290.out 9).trans rfl; have hcz12_10 : w10.cell? ⟨gb1290, 10, none⟩ = some (.int .i64 a0_10) := (zK BK1290.out 10).trans rfl; have hfz12_0 := zJ BK1290.out 0; have hfz12_1 := zJ BK1290.out 1; have hfz12_2 := zJ BK1290.out 2; have hfz12_3 := zJ BK1290.out 3; have hfz12_4 := zJ BK1290.out 4; have hfz12_5 := zJ BK1290.out 5; have hfz12_6 := zJ BK1290.out 6; have hfz12_7 := zJ BK1290.out 7; have hfz12_8 := zJ BK1290.out 8; have hfz12_9 := zJ BK1290.out 9; have hfz12_10 := zJ BK1290.out 10; have hcz13_0 : w10.cell? ⟨gb1291, 0, none⟩ = some (.int .i64 a1_0) := (zK BK1291.out 0).trans rfl; have hcz13_1 : w10.cell? ⟨gb1291, 1, none⟩ = some (.int .i64 a1_1) := (zK BK1291.out 1).trans rfl; have hcz13_2 : w10.cell? ⟨gb1291, 2, none⟩ = some (.int .i64 a1_2) := (zK BK1291.out 2).trans rfl; have hcz13_3 : w10.cell? ⟨gb1291, 3, none⟩ = some (.int .i64 a1_3) := (zK BK1291.out 3).trans rfl; have hcz13_4 : w10.cell? ⟨gb1291, 4, none⟩ = some (.slice A1_4 l1_4.length c1_4) := (zK BK1291.out 4).trans rfl; have hcz13_5 : w10.cell? ⟨gb1291, 5, none⟩ = some (.int .i64 a1_5) := (zK BK1291.out 5).trans rfl; have hcz13_6 : w10.cell? ⟨gb1291, 6, none⟩ = some (.slice A1_6 l1_6.length c1_6) := (zK BK1291.out 6).trans rfl; have hcz13_7 : w10.cell? ⟨gb1291, 7, none⟩ = some (.int .i64 a1_7) := (zK BK1291.out 7).trans rfl; have hcz13_8 : w10.cell? ⟨gb1291, 8, none⟩ = some (.bool a1_8) := (zK BK1291.out 8).trans rfl; have hcz13_9 : w10.cell? ⟨gb1291, 9, none⟩ = some (.int .i64 a1_9) := (zK BK1291.out 9).trans rfl; have hcz13_10 : w10.cell? ⟨gb1291, 10, none⟩ = some (.int .i64 a1_10) := (zK BK1291.out 10).trans rfl; have hfz13_0 := zJ BK1291.out 0; have hfz13_1 := zJ BK1291.out 1; have hfz13_2 := zJ BK1291.out 2; have hfz13_3 := zJ BK1291.out 3; have hfz13_4 := zJ BK1291.out 4; have hfz13_5 := zJ BK1291.out 5; have hfz13_6 := zJ BK1291.out 6; have hfz13_7 := zJ BK1291.out 7; have hfz13_8 := zJ BK1291.out 8; have hfz13_9 := zJ BK1291.out 9; have hfz13_10 := zJ BK1291.out 10) | ((with_reducible refine gate_callee (f := 102) rfl ?_); refine goesL_ (some 14) rfl rfl Try.func102 (by kernel_rfl) rfl #[.agg #[.int .i64 a0_1, .int .i64 a0_2, .int .i64 a0_3, .slice A0_4 l0_4.length c0_4], .agg #[.int .i64 a1_1, .int .i64 a1_2, .int .i64 a1_3, .slice A1_4 l1_4.length c1_4]] rfl (by (try simp only [zU, zV, zW]); first | done | rfl | (simp only [zR, zQ]; rfl)) ?_; (with_reducible refine (laws_eqPicture.calls k a0_1 a0_2 a0_3 _ _ l0_4 a1_1 a1_2 a1_3 _ _ l1_4 true _ ?side1 ?side2 ?side3 ?side4 A4.out).mono ?_); (case side1 => repeat (first | exact (Kd.C_below HR0_4.out HB.out) | (with_reducible refine yH ?_ _) | (with_reducible refine yF ?_ _) | (with_reducible refine yG ?_))); (case side2 => exact HC0_4.out); (case side3 => repeat (first | exact (Kd.C_below HR1_4.out HB.out) | (with_reducible refine yH ?_ _) | (with_reducible refine yF ?_ _) | (with_reducible refine yG ?_))); (case side4 => exact HC1_4.out); rintro e w14 ⟨rfl, hb⟩; refine ⟨_, rfl, ?_⟩; have n0_ := zA (blk_below (g := gb1290) (o := .cells #[.int .i64 a0_0, .int .i64 a0_1, .int .i64 a0_2, .int .i64 a0_3, .slice A0_4 l0_4.length c0_4, .int .i64 a0_5, .slice A0_6 l0_6.length c0_6, .int .i64 a0_7, .bool a0_8, .int .i64 a0_9, .int .i64 a0_10] 86 (0, 0)) (by (with_reducible repeat (first | refine zG ?_ _ | refine zH ?_ | refine zD ?_ _)); exact BK1290.out) hb); have n1_ := zA (blk_below (g := gb1291) (o := .cells #[.int .i64 a1_0, .int .i64 a1_1, .int .i64 a1_2, .int .i64 a1_3, .slice A1_4 l1_4.length c1_4, .int .i64 a1_5, .slice A1_6 l1_6.length c1_6, .int .i64 a1_7, .bool a1_8, .int .i64 a1_9, .int .i64 a1_10] 86 (0, 0)) (by (with_reducible repeat (first | refine zG ?_ _ | refine zH ?_ | refine zD ?_ _)); exact BK1291.out) hb); have n2_ := zA (below_step (by repeat (first | (with_reducible first | exact HB.out | apply zC | apply zB | apply zF | refine zE ?_ GE1290.out | refine zE ?_ GE1291.out) | exact HB.out)) hb); clear BK1290; clear BK1291; clear HB; have BK1290 := n0_; have BK1291 := n1_; have HB := n2_; clear n0_ n1_ n2_; (try clear hb); (try clear hb2); (try clear hk); (try clear hi); have hcz15_0 : w14.cell? ⟨gb1290, 0, none⟩ = some (.int .i64 a0_0) := (zK BK1290.out 0).trans rfl; have hcz15_1 : w14.cell? ⟨gb1290, 1, none⟩ = some (.int .i64 a0_1) := (zK BK1290.out 1).trans rfl; have hcz15_2 : w14.cell? ⟨gb1290, 2, none⟩ = some (.int .i64 a0_2) := (zK BK1290.out 2).trans rfl; have hcz15_3 : w14.cell? ⟨gb1290, 3, none⟩ = some (.int .i64 a0_3) := (zK BK1290.out 3).trans rfl; have hcz15_4 : w14.cell? ⟨gb1290, 4, none⟩ = some (.slice A0_4 l0_4.length c0_4) := (zK BK1290.out 4).trans rfl; have hcz15_5 : w14.cell? ⟨gb1290, 5, none⟩ = some (.int .i64 a0_5) := (zK BK1290.out 5).trans rfl; have hcz15_6 : w14.cell? ⟨gb1290, 6, none⟩ = some (.slice A0_6 l0_6.length c0_6) := (zK BK1290.out 6).trans rfl; have hcz15_7 : w14.cell? ⟨gb1290, 7, none⟩ = some (.int .i64 a0_7) := (zK BK1290.out 7).trans rfl; have hcz15_8 : w14.cell? ⟨gb1290, 8, none⟩ = some (.bool a0_8) := (zK BK1290.out 8).trans rfl; have hcz15_9 : w14.cell? ⟨gb1290, 9, none⟩ = some (.int .i64 a0_9) := (zK BK1290.out 9).trans rfl; have hcz15_10 : w14.cell? ⟨gb1290, 10, none⟩ = some (.int .i64 a0_10) := (zK BK1290.out 10).trans rfl; have hfz15_0 := zJ BK1290.out 0; have hfz15_1 := zJ BK1290.out 1; have hfz15_2 := zJ BK1290.out 2; have hfz15_3 := zJ BK1290.out 3; have hfz15_4 := zJ BK1290.out 4; have hfz15_5 := zJ BK1290.out 5; have hfz15_6 := zJ BK1290.out 6; have hfz15_7 := zJ BK1290.out 7; have hfz15_8 := zJ BK1290.out 8; have hfz15_9 := zJ BK1290.out 9; have hfz15_10 := zJ BK1290.out 10; have hcz16_0 : w14.cell? ⟨gb1291, 0, none⟩ = some (.int .i64 a1_0) := (zK BK1291.out 0).trans rfl; have hcz16_1 : w14.cell? ⟨gb1291, 1, none⟩ = some (.int .i64 a1_1) := (zK BK1291.out 1).trans rfl; have hcz16_2 : w14.cell? ⟨gb1291, 2, none⟩ = some (.int .i64 a1_2) := (zK BK1291.out 2).trans rfl; have hcz16_3 : w14.cell? ⟨gb1291, 3, none⟩ = some (.int .i64 a1_3) := (zK BK1291.out 3).trans rfl; have hcz16_4 : w14.cell? ⟨gb1291, 4, none⟩ = some (.slice A1_4 l1_4.length c1_4) := (zK BK1291.out 4).trans rfl; have hcz16_5 : w14.cell? ⟨gb1291, 5, none⟩ = some (.int .i64 a1_5) := (zK BK1291.out 5).trans rfl; have hcz16_6 : w14.cell? ⟨gb1291, 6, none⟩ = some (.slice A1_6 l1_6.length c1_6) := (zK BK1291.out 6).trans rfl; have hcz16_7 : w14.cell? ⟨gb1291, 7, none⟩ = some (.int .i64 a1_7) := (zK BK1291.out 7).trans rfl; have hcz16_8 : w14.cell? ⟨gb1291, 8, none⟩ = some (.bool a1_8) := (zK BK1291.out 8).trans rfl; have hcz16_9 : w14.cell? ⟨gb1291, 9, none⟩ = some (.int .i64 a1_9) := (zK BK1291.out 9).trans rfl; have hcz16_10 : w14.cell? ⟨gb1291, 10, none⟩ = some (.int .i64 a1_10) := (zK BK1291.out 10).trans rfl; have hfz16_0 := zJ BK1291.out 0; have hfz16_1 := zJ BK1291.out 1; have hfz16_2 := zJ BK1291.out 2; have hfz16_3 := zJ BK1291.out 3; have hfz16_4 := zJ BK1291.out 4; have hfz16_5 := zJ BK1291.out 5; have hfz16_6 := zJ BK1291.out 6; have hfz16_7 := zJ BK1291.out 7; have hfz16_8 := zJ BK1291.out 8; have hfz16_9 := zJ BK1291.out 9; have hfz16_10 := zJ BK1291.out 10) | ((with_reducible refine gate_callee (f := 103) rfl ?_); refine goesL_ (some 25) rfl rfl Try.func103 (by kernel_rfl) rfl #[.agg #[.slice A0_6 l0_6.length c0_6, .int .i64 a0_7, .bool a0_8, .int .i64 a0_9, .int .i64 a0_10], .agg #[.slice A1_6 l1_6.length c1_6, .int .i64 a1_7, .bool a1_8, .int .i64 a1_9, .int .i64 a1_10]] rfl (by (try simp only [zU, zV, zW]); first | done | rfl | (simp only [zR, zQ]; rfl)) ?_; (with_reducible refine (laws_eqFeed.calls k _ _ l0_6 a0_7 a0_8 a0_9 a0_10 _ _ l1_6 a1_7 a1_8 a1_9 a1_10 true _ ?side1 ?side2 ?side3 ?side4 A7.out).mono ?_); (case side1 => repeat (first | exact (Kd.C_below HR0_6.out HB.out) | (with_reducible refine yH ?_ _) | (with_reducible refine yF ?_ _) | (with_reducible refine yG ?_))); (case side2 => exact HC0_6.out); (case side3 => repeat (first | exact (Kd.C_below HR1_6.out HB.out) | (with_reducible refine yH ?_ _) | (with_reducible refine yF ?_ _) | (with_reducible refine yG ?_))); (case side4 => exact HC1_6.out); rintro e w17 ⟨rfl, hb⟩; refine ⟨_, rfl, ?_⟩; have n0_ := zA (blk_below (g := gb1290) (o := .cells #[.int .i64 a0_0, .int .i64 a0_1, .int .i64 a0_2, .int .i64 a0_3, .slice A0_4 l0_4.length c0_4, .int .i64 a0_5, .slice A0_6 l0_6.length c0_6, .int .i64 a0_7, .bool a0_8, .int .i64 a0_9, .int .i64 a0_10] 86 (0, 0)) (by (with_reducible repeat (first | refine zG ?_ _ | refine zH ?_ | refine zD ?_ _)); exact BK1290.out) hb); have n1_ := zA (blk_below (g := gb1291) (o := .cells #[.int .i64 a1_0, .int .i64 a1_1, .int .i64 a1_2, .int .i64 a1_3, .slice A1_4 l1_4.length c1_4, .int .i64 a1_5, .slice A1_6 l1_6.length c1_6, .int .i64 a1_7, .bool a1_8, .int .i64 a1_9, .int .i64 a1_10] 86 (0, 0)) (by (with_reducible repeat (first | refine zG ?_ _ | refine zH ?_ | refine zD ?_ _)); exact BK1291.out) hb); have n2_ := zA (below_step (by repeat (first | (with_reducible first | exact HB.out | apply zC | apply zB | apply zF | refine zE ?_ GE1290.out | refine zE ?_ GE1291.out) | exact HB.out)) hb); clear BK1290; clear BK1291; clear HB; have BK1290 := n0_; have BK1291 := n1_; have HB := n2_; clear n0_ n1_ n2_; (try clear hb); (try clear hb2); (try clear hk); (try clear hi)))
     go_ret
     exact ⟨by first | rfl | (simp [errW_none, errW_some] <;> rfl) | (simp [*, errW_none, errW_some] <;> rfl), by repeat (first | (with_reducible first | exact HB.out | apply zC | apply zB | apply zF | refine zE ?_ GE1290.out | refine zE ?_ GE1291.out) | exact HB.out)⟩
    ·replace c8 := Bool.eq_false_iff.mpr c8
     subst c8
     have H1 : (some false) = some r := by rw [if_neg (show ¬ (false = true) by decide)] at H; exact H
     clear H
     have H := H1
     clear H1
     obtain rfl := Option.some.inj H
     go_enter Try.func45, Try.ntmps45
     go_wp2_with (first | ((with_reducible refine gate_dst (N := 2) rfl ?_); refine box_event ?hg (N := 2) ?hd (cs := #[.int .i64 a0_0, .int .i64 a0_1, .int .i64 a0_2, .int .i64 a0_3, .slice A0_4 l0_4.length c0_4, .int .i64 a0_5, .slice A0_6 l0_6.length c0_6, .int .i64 a0_7, .bool a0_8, .int .i64 a0_9, .int .i64 a0_10]) (t := 86) ?hr ?_; (case hd => rfl); (case hg => rfl); (case hr => first | (go_simp; done) | (go_simp; rfl)); intro gb1290 hg w18 hbox hb; have n0_ := zA (below_step (by repeat (first | (with_reducible first | exact HB.out | apply zC | apply zB | apply zF) | exact HB.out)) hb); have n1_ := zA (hbox); have n2_ := zA ((by rw [hg]; exact (zL (by repeat (first | (with_reducible first | exact HB.out | apply zC | apply zB | apply zF) | exact HB.out))) : w.heap.size ≤ gb1290)); have n3_ := zA ((by rw [hg]; exact (zL (by repeat (first | (with_reducible first | exact HB.out | apply zC | apply zB | apply zF) | exact HB.out))) : w.heap.size ≤ gb1290)); clear HB; have HB := n0_; have BK1290 := n1_; have GW1290 := n2_; have GE1290 := n3_; clear n0_ n1_ n2_ n3_; clear hb hbox hg) | ((with_reducible refine gate_dst (N := 3) rfl ?_); refine box_event ?hg (N := 3) ?hd (cs := #[.int .i64 a1_0, .int .i64 a1_1, .int .i64 a1_2, .int .i64 a1_3, .slice A1_4 l1_4.length c1_4, .int .i64 a1_5, .slice A1_6 l1_6.length c1_6, .int .i64 a1_7, .bool a1_8, .int .i64 a1_9, .int .i64 a1_10]) (t := 86) ?hr ?_; (case hd => rfl); (case hg => rfl); (case hr => first | (go_simp; done) | (go_simp; rfl)); intro gb1291 hg w19 hbox hb; have n0_ := zA (blk_below (g := gb1290) (o := .cells #[.int .i64 a0_0, .int .i64 a0_1, .int .i64 a0_2, .int .i64 a0_3, .slice A0_4 l0_4.length c0_4, .int .i64 a0_5, .slice A0_6 l0_6.length c0_6, .int .i64 a0_7, .bool a0_8, .int .i64 a0_9, .int .i64 a0_10] 86 (0, 0)) (by (with_reducible repeat (first | refine zG ?_ _ | refine zH ?_ | refine zD ?_ _)); exact BK1290.out) hb); have n1_ := zA (below_step (by repeat (first | (with_reducible first | exact HB.out | apply zC | apply zB | apply zF | refine zE ?_ GE1290.out) | exact HB.out)) hb); have n2_ := zA (hbox); have n3_ := zA ((by rw [hg]; exact (zL (by repeat (first | (with_reducible first | exact HB.out | apply zC | apply zB | apply zF | refine zE ?_ GE1290.out) | exact HB.out))) : w.heap.size ≤ gb1291)); have n4_ := zA ((by rw [hg]; exact (zL (by repeat (first | (with_reducible first | exact HB.out | apply zC | apply zB | apply zF | refine zE ?_ GE1290.out) | exact HB.out))) : w.heap.size ≤ gb1291)); have n5_ := zA ((by rw [hg]; exact Nat.ne_of_lt (blk_lt (g := gb1290) (o := .cells #[.int .i64 a0_0, .int .i64 a0_1, .int .i64 a0_2, .int .i64 a0_3, .slice A0_4 l0_4.length c0_4, .int .i64 a0_5, .slice A0_6 l0_6.length c0_6, .int .i64 a0_7, .bool a0_8, .int .i64 a0_9, .int .i64 a0_10] 86 (0, 0)) (by (with_reducible repeat (first | refine zG ?_ _ | refine zH ?_ | refine zD ?_ _)); exact BK1290.out)) : gb1290 ≠ gb1291)); have n6_ := zA ((by rw [hg]; exact Nat.ne_of_gt (blk_lt (g := gb1290) (o := .cells #[.int .i64 a0_0, .int .i64 a0_1, .int .i64 a0_2, .int .i64 a0_3, .slice A0_4 l0_4.length c0_4, .int .i64 a0_5, .slice A0_6 l0_6.length c0_6, .int .i64 a0_7, .bool a0_8, .int .i64 a0_9, .int .i64 a0_10] 86 (0, 0)) (by (with_reducible repeat (first | refine zG ?_ _ | refine zH ?_ | refine zD ?_ _)); exact BK1290.out)) : gb1291 ≠ gb1290)); clear BK1290; clear HB; have BK1290 := n0_; have HB := n1_; have BK1291 := n2_; have GW1291 := n3_; have GE1291 := n4_; have NB1290_1291 := n5_; have NB1291_1290 := n6_; clear n0_ n1_ n2_ n3_ n4_ n5_ n6_; clear hb hbox hg; have hnb20 := NB1290_1291.out; have hnc20 := NB1291_1290.out; have hcz21_0 : w19.cell? ⟨gb1290, 0, none⟩ = some (.int .i64 a0_0) := (zK BK1290.out 0).trans rfl; have hcz21_1 : w19.cell? ⟨gb1290, 1, none⟩ = some (.int .i64 a0_1) := (zK BK1290.out 1).trans rfl; have hcz21_2 : w19.cell? ⟨gb1290, 2, none⟩ = some (.int .i64 a0_2) := (zK BK1290.out 2).trans rfl; have hcz21_3 : w19.cell? ⟨gb1290, 3, none⟩ = some (.int .i64 a0_3) := (zK BK1290.out 3).trans rfl; have hcz21_4 : w19.cell? ⟨gb1290, 4, none⟩ = some (.slice A0_4 l0_4.length c0_4) := (zK BK1290.out 4).trans rfl; have hcz21_5 : w19.cell? ⟨gb1290, 5, none⟩ = some (.int .i64 a0_5) := (zK BK1290.out 5).trans rfl; have hcz21_6 : w19.cell? ⟨gb1290, 6, none⟩ = some (.slice A0_6 l0_6.length c0_6) := (zK BK1290.out 6).trans rfl; have hcz21_7 : w19.cell? ⟨gb1290, 7, none⟩ = some (.int .i64 a0_7) := (zK BK1290.out 7).trans rfl; have hcz21_8 : w19.cell? ⟨gb1290, 8, none⟩ = some (.bool a0_8) := (zK BK1290.out 8).trans rfl; have hcz21_9 : w19.cell? ⟨gb1290, 9, none⟩ = some (.int .i64 a0_9) := (zK BK1290.out 9).trans rfl; have hcz21_10 : w19.cell? ⟨gb1290, 10, none⟩ = some (.int .i64 a0_10) := (zK BK1290.out 10).trans rfl; have hfz21_0 := zJ BK1290.out 0; have hfz21_1 := zJ BK1290.out 1; have hfz21_2 := zJ BK1290.out 2; have hfz21_3 := zJ BK1290.out 3; have hfz21_4 := zJ BK1290.out 4; have hfz21_5 := zJ BK1290.out 5; have hfz21_6 := zJ BK1290.out 6; have hfz21_7 := zJ BK1290.out 7; have hfz21_8 := zJ BK1290.out 8; have hfz21_9 := zJ BK1290.out 9; have hfz21_10 := zJ BK1290.out 10; have hcz22_0 : w19.cell? ⟨gb1291, 0, none⟩ = some (.int .i64 a1_0) := (zK BK1291.out 0).trans rfl; have hcz22_1 : w19.cell? ⟨gb1291, 1, none⟩ = some (.int .i64 a1_1) := (zK BK1291.out 1).trans rfl; have hcz22_2 : w19.cell? ⟨gb1291, 2, none⟩ = some (.int .i64 a1_2) := (zK BK1291.out 2).trans rfl; have hcz22_3 : w19.cell? ⟨gb1291, 3, none⟩ = some (.int .i64 a1_3) := (zK BK1291.out 3).trans rfl; have hcz22_4 : w19.cell? ⟨gb1291, 4, none⟩ = some (.slice A1_4 l1_4.length c1_4) := (zK BK1291.out 4).trans rfl; have hcz22_5 : w19.cell? ⟨gb1291, 5, none⟩ = some (.int .i64 a1_5) := (zK BK1291.out 5).trans rfl; have hcz22_6 : w19.cell? ⟨gb1291, 6, none⟩ = some (.slice A1_6 l1_6.length c1_6) := (zK BK1291.out 6).trans rfl; have hcz22_7 : w19.cell? ⟨gb1291, 7, none⟩ = some (.int .i64 a1_7) := (zK BK1291.out 7).trans rfl; have hcz22_8 : w19.cell? ⟨gb1291, 8, none⟩ = some (.bool a1_8) := (zK BK1291.out 8).trans rfl; have hcz22_9 : w19.cell? ⟨gb1291, 9, none⟩ = some (.int .i64 a1_9) := (zK BK1291.out 9).trans rfl; have hcz22_10 : w19.cell? ⟨gb1291, 10, none⟩ = some (.int .i64 a1_10) := (zK BK1291.out 10).trans rfl; have hfz22_0 := zJ BK1291.out 0; have hfz22_1 := zJ BK1291.out 1; have hfz22_2 := zJ BK1291.out 2; have hfz22_3 := zJ BK1291.out 3; have hfz22_4 := zJ BK1291.out 4; have hfz22_5 := zJ BK1291.out 5; have hfz22_6 := zJ BK1291.out 6; have hfz22_7 := zJ BK1291.out 7; have hfz22_8 := zJ BK1291.out 8; have hfz22_9 := zJ BK1291.out 9; have hfz22_10 := zJ BK1291.out 10) | ((with_reducible refine gate_callee (f := 102) rfl ?_); refine goesL_ (some 14) rfl rfl Try.func102 (by kernel_rfl) rfl #[.agg #[.int .i64 a0_1, .int .i64 a0_2, .int .i64 a0_3, .slice A0_4 l0_4.length c0_4], .agg #[.int .i64 a1_1, .int .i64 a1_2, .int .i64 a1_3, .slice A1_4 l1_4.length c1_4]] rfl (by (try simp only [zU, zV, zW]); first | done | rfl | (simp only [zR, zQ]; rfl)) ?_; (with_reducible refine (laws_eqPicture.calls k a0_1 a0_2 a0_3 _ _ l0_4 a1_1 a1_2 a1_3 _ _ l1_4 true _ ?side1 ?side2 ?side3 ?side4 A4.out).mono ?_); (case side1 => repeat (first | exact (Kd.C_below HR0_4.out HB.out) | (with_reducible refine yH ?_ _) | (with_reducible refine yF ?_ _) | (with_reducible refine yG ?_))); (case side2 => exact HC0_4.out); (case side3 => repeat (first | exact (Kd.C_below HR1_4.out HB.out) | (with_reducible refine yH ?_ _) | (with_reducible refine yF ?_ _) | (with_reducible refine yG ?_))); (case side4 => exact HC1_4.out); rintro e w23 ⟨rfl, hb⟩; refine ⟨_, rfl, ?_⟩; have n0_ := zA (blk_below (g := gb1290) (o := .cells #[.int .i64 a0_0, .int .i64 a0_1, .int .i64 a0_2, .int .i64 a0_3, .slice A0_4 l0_4.length c0_4, .int .i64 a0_5, .slice A0_6 l0_6.length c0_6, .int .i64 a0_7, .bool a0_8, .int .i64 a0_9, .int .i64 a0_10] 86 (0, 0)) (by (with_reducible repeat (first | refine zG ?_ _ | refine zH ?_ | refine zD ?_ _)); exact BK1290.out) hb); have n1_ := zA (blk_below (g := gb1291) (o := .cells #[.int .i64 a1_0, .int .i64 a1_1, .int .i64 a1_2, .int .i64 a1_3, .slice A1_4 l1_4.length c1_4, .int .i64 a1_5, .slice A1_6 l1_6.length c1_6, .int .i64 a1_7, .bool a1_8, .int .i64 a1_9, .int .i64 a1_10] 86 (0, 0)) (by (with_reducible repeat (first | refine zG ?_ _ | refine zH ?_ | refine zD ?_ _)); exact BK1291.out) hb); have n2_ := zA (below_step (by repeat (first | (with_reducible first | exact HB.out | apply zC | apply zB | apply zF | refine zE ?_ GE1290.out | refine zE ?_ GE1291.out) | exact HB.out)) hb); clear BK1290; clear BK1291; clear HB; have BK1290 := n0_; have BK1291 := n1_; have HB := n2_; clear n0_ n1_ n2_; (try clear hb); (try clear hb2); (try clear hk); (try clear hi); have hcz24_0 : w23.cell? ⟨gb1290, 0, none⟩ = some (.int .i64 a0_0) := (zK BK1290.out 0).trans rfl; have hcz24_1 : w23.cell? ⟨gb1290, 1, none⟩ = some (.int .i64 a0_1) := (zK BK1290.out 1).trans rfl; have hcz24_2 : w23.cell? ⟨gb1290, 2, none⟩ = some (.int .i64 a0_2) := (zK BK1290.out 2).trans rfl; have hcz24_3 : w23.cell? ⟨gb1290, 3, none⟩ = some (.int .i64 a0_3) := (zK BK1290.out 3).trans rfl; have hcz24_4 : w23.cell? ⟨gb1290, 4, none⟩ = some (.slice A0_4 l0_4.length c0_4) := (zK BK1290.out 4).trans rfl; have hcz24_5 : w23.cell? ⟨gb1290, 5, none⟩ = some (.int .i64 a0_5) := (zK BK1290.out 5).trans rfl; have hcz24_6 : w23.cell? ⟨gb1290, 6, none⟩ = some (.slice A0_6 l0_6.length c0_6) := (zK BK1290.out 6).trans rfl; have hcz24_7 : w23.cell? ⟨gb1290, 7, none⟩ = some (.int .i64 a0_7) := (zK BK1290.out 7).trans rfl; have hcz24_8 : w23.cell? ⟨gb1290, 8, none⟩ = some (.bool a0_8) := (zK BK1290.out 8).trans rfl; have hcz24_9 : w23.cell? ⟨gb1290, 9, none⟩ = some (.int .i64 a0_9) := (zK BK1290.out 9).trans rfl; have hcz24_10 : w23.cell? ⟨gb1290, 10, none⟩ = some (.int .i64 a0_10) := (zK BK1290.out 10).trans rfl; have hfz24_0 := zJ BK1290.out 0; have hfz24_1 := zJ BK1290.out 1; have hfz24_2 := zJ BK1290.out 2; have hfz24_3 := zJ BK1290.out 3; have hfz24_4 := zJ BK1290.out 4; have hfz24_5 := zJ BK1290.out 5; have hfz24_6 := zJ BK1290.out 6; have hfz24_7 := zJ BK1290.out 7; have hfz24_8 := zJ BK1290.out 8; have hfz24_9 := zJ BK1290.out 9; have hfz24_10 := zJ BK1290.out 10; have hcz25_0 : w23.cell? ⟨gb1291, 0, none⟩ = some (.int .i64 a1_0) := (zK BK1291.out 0).trans rfl; have hcz25_1 : w23.cell? ⟨gb1291, 1, none⟩ = some (.int .i64 a1_1) := (zK BK1291.out 1).trans rfl; have hcz25_2 : w23.cell? ⟨gb1291, 2, none⟩ = some (.int .i64 a1_2) := (zK BK1291.out 2).trans rfl; have hcz25_3 : w23.cell? ⟨gb1291, 3, none⟩ = some (.int .i64 a1_3) := (zK BK1291.out 3).trans rfl; have hcz25_4 : w23.cell? ⟨gb1291, 4, none⟩ = some (.slice A1_4 l1_4.length c1_4) := (zK BK1291.out 4).trans rfl; have hcz25_5 : w23.cell? ⟨gb1291, 5, none⟩ = some (.int .i64 a1_5) := (zK BK1291.out 5).trans rfl; have hcz25_6 : w23.cell? ⟨gb1291, 6, none⟩ = some (.slice A1_6 l1_6.length c1_6) := (zK BK1291.out 6).trans rfl; have hcz25_7 : w23.cell? ⟨gb1291, 7, none⟩ = some (.int .i64 a1_7) := (zK BK1291.out 7).trans rfl; have hcz25_8 : w23.cell? ⟨gb1291, 8, none⟩ = some (.bool a1_8) := (zK BK1291.out 8).trans rfl; have hcz25_9 : w23.cell? ⟨gb1291, 9, none⟩ = some (.int .i64 a1_9) := (zK BK1291.out 9).trans rfl; have hcz25_10 : w23.cell? ⟨gb1291, 10, none⟩ = some (.int .i64 a1_10) := (zK BK1291.out 10).trans rfl; have hfz25_0 := zJ BK1291.out 0; have hfz25_1 := zJ BK1291.out 1; have hfz25_2 := zJ BK1291.out 2; have hfz25_3 := zJ BK1291.out 3; have hfz25_4 := zJ BK1291.out 4; have hfz25_5 := zJ BK1291.out 5; have hfz25_6 := zJ BK1291.out 6; have hfz25_7 := zJ BK1291.out 7; have hfz25_8 := zJ BK1291.out 8; have hfz25_9 := zJ BK1291.out 9; have hfz25_10 := zJ BK1291.out 10) | ((with_reducible refine gate_callee (f := 103) rfl ?_); refine goesL_ (some 25) rfl rfl Try.func103 (by kernel_rfl) rfl #[.agg #[.slice A0_6 l0_6.length c0_6, .int .i64 a0_7, .bool a0_8, .int .i64 a0_9, .int .i64 a0_10], .agg #[.slice A1_6 l1_6.length c1_6, .int .i64 a1_7, .bool a1_8, .int .i64 a1_9, .int .i64 a1_10]] rfl (by (try simp only [zU, zV, zW]); first | done | rfl | (simp only [zR, zQ]; rfl)) ?_; (with_reducible refine (laws_eqFeed.calls k _ _ l0_6 a0_7 a0_8 a0_9 a0_10 _ _ l1_6 a1_7 a1_8 a1_9 a1_10 false _ ?side1 ?side2 ?side3 ?side4 A7.out).mono ?_); (case side1 => repeat (first | exact (Kd.C_below HR0_6.out HB.out) | (with_reducible refine yH ?_ _) | (with_reducible refine yF ?_ _) | (with_reducible refine yG ?_))); (case side2 => exact HC0_6.out); (case side3 => repeat (first | exact (Kd.C_below HR1_6.out HB.out) | (with_reducible refine yH ?_ _) | (with_reducible refine yF ?_ _) | (with_reducible refine yG ?_))); (case side4 => exact HC1_6.out); rintro e w26 ⟨rfl, hb⟩; refine ⟨_, rfl, ?_⟩; have n0_ := zA (blk_below (g := gb1290) (o := .cells #[.int .i64 a0_0, .int .i64 a0_1, .int .i64 a0_2, .int .i64 a0_3, .slice A0_4 l0_4.length c0_4, .int .i64 a0_5, .slice A0_6 l0_6.length c0_6, .int .i64 a0_7, .bool a0_8, .int .i64 a0_9, .int .i64 a0_10] 86 (0, 0)) (by (with_reducible repeat (first | refine zG ?_ _ | refine zH ?_ | refine zD ?_ _)); exact BK1290.out) hb); have n1_ := zA (blk_below (g := gb1291) (o := .cells #[.int .i64 a1_0, .int .i64 a1_1, .int .i64 a1_2, .int .i64 a1_3, .slice A1_4 l1_4.length c1_4, .int .i64 a1_5, .slice A1_6 l1_6.length c1_6, .int .i64 a1_7, .bool a1_8, .int .i64 a1_9, .int .i64 a1_10] 86 (0, 0)) (by (with_reducible repeat (first | refine zG ?_ _ | refine zH ?_ | refine zD ?_ _)); exact BK1291.out) hb); have n2_ := zA (below_step (by repeat (first | (with_reducible first | exact HB.out | apply zC | apply zB | apply zF | refine zE ?_ GE1290.out | refine zE ?_ GE1291.out) | exact HB.out)) hb); clear BK1290; clear BK1291; clear HB; have BK1290 := n0_; have BK1291 := n1_; have HB := n2_; clear n0_ n1_ n2_; (try clear hb); (try clear hb2); (try clear hk); (try clear hi)))
     go_ret
     exact ⟨by first | rfl | (simp [errW_none, errW_some] <;> rfl) | (simp [*, errW_none, errW_some] <;> rfl), by repeat (first | (with_reducible first | exact HB.out | apply zC | apply zB | apply zF | refine zE ?_ GE1290.out | refine zE ?_ GE1291.out) | exact HB.out)⟩
   ·rw [if_neg c6] at H
    have c6b0 : (a0_5 == a1_5) = false := beq_eq_false_iff_ne.mpr c6
    have c6b1 : (a0_5 != a1_5) = true := bne_iff_ne.mpr c6
    obtain rfl := Option.some.inj H
    go_enter Try.func45, Try.ntmps45
    go_wp2_with (first | ((with_reducible refine gate_dst (N := 2) rfl ?_); refine box_event ?hg (N := 2) ?hd (cs := #[.int .i64 a0_0, .int .i64 a0_1, .int .i64 a0_2, .int .i64 a0_3, .slice A0_4 l0_4.length c0_4, .int .i64 a0_5, .slice A0_6 l0_6.length c0_6, .int .i64 a0_7, .bool a0_8, .int .i64 a0_9, .int .i64 a0_10]) (t := 86) ?hr ?_; (case hd => rfl); (case hg => rfl); (case hr => first | (go_simp; done) | (go_simp; rfl)); intro gb1290 hg w27 hbox hb; have n0_ := zA (below_step (by repeat (first | (with_reducible first | exact HB.out | apply zC | apply zB | apply zF) | exact HB.out)) hb); have n1_ := zA (hbox); have n2_ := zA ((by rw [hg]; exact (zL (by repeat (first | (with_reducible first | exact HB.out | apply zC | apply zB | apply zF) | exact HB.out))) : w.heap.size ≤ gb1290)); have n3_ := zA ((by rw [hg]; exact (zL (by repeat (first | (with_reducible first | exact HB.out | apply zC | apply zB | apply zF) | exact HB.out))) : w.heap.size ≤ gb1290)); clear HB; have HB := n0_; have BK1290 := n1_; have GW1290 := n2_; have GE1290 := n3_; clear n0_ n1_ n2_ n3_; clear hb hbox hg) | ((with_reducible refine gate_dst (N := 3) rfl ?_); refine box_event ?hg (N := 3) ?hd (cs := #[.int .i64 a1_0, .int .i64 a1_1, .int .i64 a1_2, .int .i64 a1_3, .slice A1_4 l1_4.length c1_4, .int .i64 a1_5, .slice A1_6 l1_6.length c1_6, .int .i64 a1_7, .bool a1_8, .int .i64 a1_9, .int .i64 a1_10]) (t := 86) ?hr ?_; (case hd => rfl); (case hg => rfl); (case hr => first | (go_simp; done) | (go_simp; rfl)); intro gb1291 hg w28 hbox hb; have n0_ := zA (blk_below (g := gb1290) (o := .cells #[.int .i64 a0_0, .int .i64 a0_1, .int .i64 a0_2, .int .i64 a0_3, .slice A0_4 l0_4.length c0_4, .int .i64 a0_5, .slice A0_6 l0_6.length c0_6, .int .i64 a0_7, .bool a0_8, .int .i64 a0_9, .int .i64 a0_10] 86 (0, 0)) (by (with_reducible repeat (first | refine zG ?_ _ | refine zH ?_ | refine zD ?_ _)); exact BK1290.out) hb); have n1_ := zA (below_step (by repeat (first | (with_reducible first | exact HB.out | apply zC | apply zB | apply zF | refine zE ?_ GE1290.out) | exact HB.out)) hb); have n2_ := zA (hbox); have n3_ := zA ((by rw [hg]; exact (zL (by repeat (first | (with_reducible first | exact HB.out | apply zC | apply zB | apply zF | refine zE ?_ GE1290.out) | exact HB.out))) : w.heap.size ≤ gb1291)); have n4_ := zA ((by rw [hg]; exact (zL (by repeat (first | (with_reducible first | exact HB.out | apply zC | apply zB | apply zF | refine zE ?_ GE1290.out) | exact HB.out))) : w.heap.size ≤ gb1291)); have n5_ := zA ((by rw [hg]; exact Nat.ne_of_lt (blk_lt (g := gb1290) (o := .cells #[.int .i64 a0_0, .int .i64 a0_1, .int .i64 a0_2, .int .i64 a0_3, .slice A0_4 l0_4.length c0_4, .int .i64 a0_5, .slice A0_6 l0_6.length c0_6, .int .i64 a0_7, .bool a0_8, .int .i64 a0_9, .int .i64 a0_10] 86 (0, 0)) (by (with_reducible repeat (first | refine zG ?_ _ | refine zH ?_ | refine zD ?_ _)); exact BK1290.out)) : gb1290 ≠ gb1291)); have n6_ := zA ((by rw [hg]; exact Nat.ne_of_gt (blk_lt (g := gb1290) (o := .cells #[.int .i64 a0_0, .int .i64 a0_1, .int .i64 a0_2, .int .i64 a0_3, .slice A0_4 l0_4.length c0_4, .int .i64 a0_5, .slice A0_6 l0_6.length c0_6, .int .i64 a0_7, .bool a0_8, .int .i64 a0_9, .int .i64 a0_10] 86 (0, 0)) (by (with_reducible repeat (first | refine zG ?_ _ | refine zH ?_ | refine zD ?_ _)); exact BK1290.out)) : gb1291 ≠ gb1290)); clear BK1290; clear HB; have BK1290 := n0_; have HB := n1_; have BK1291 := n2_; have GW1291 := n3_; have GE1291 := n4_; have NB1290_1291 := n5_; have NB1291_1290 := n6_; clear n0_ n1_ n2_ n3_ n4_ n5_ n6_; clear hb hbox hg; have hnb29 := NB1290_1291.out; have hnc29 := NB1291_1290.out; have hcz30_0 : w28.cell? ⟨gb1290, 0, none⟩ = some (.int .i64 a0_0) := (zK BK1290.out 0).trans rfl; have hcz30_1 : w28.cell? ⟨gb1290, 1, none⟩ = some (.int .i64 a0_1) := (zK BK1290.out 1).trans rfl; have hcz30_2 : w28.cell? ⟨gb1290, 2, none⟩ = some (.int .i64 a0_2) := (zK BK1290.out 2).trans rfl; have hcz30_3 : w28.cell? ⟨gb1290, 3, none⟩ = some (.int .i64 a0_3) := (zK BK1290.out 3).trans rfl; have hcz30_4 : w28.cell? ⟨gb1290, 4, none⟩ = some (.slice A0_4 l0_4.length c0_4) := (zK BK1290.out 4).trans rfl; have hcz30_5 : w28.cell? ⟨gb1290, 5, none⟩ = some (.int .i64 a0_5) := (zK BK1290.out 5).trans rfl; have hcz30_6 : w28.cell? ⟨gb1290, 6, none⟩ = some (.slice A0_6 l0_6.length c0_6) := (zK BK1290.out 6).trans rfl; have hcz30_7 : w28.cell? ⟨gb1290, 7, none⟩ = some (.int .i64 a0_7) := (zK BK1290.out 7).trans rfl; have hcz30_8 : w28.cell? ⟨gb1290, 8, none⟩ = some (.bool a0_8) := (zK BK1290.out 8).trans rfl; have hcz30_9 : w28.cell? ⟨gb1290, 9, none⟩ = some (.int .i64 a0_9) := (zK BK1290.out 9).trans rfl; have hcz30_10 : w28.cell? ⟨gb1290, 10, none⟩ = some (.int .i64 a0_10) := (zK BK1290.out 10).trans rfl; have hfz30_0 := zJ BK1290.out 0; have hfz30_1 := zJ BK1290.out 1; have hfz30_2 := zJ BK1290.out 2; have hfz30_3 := zJ BK1290.out 3; have hfz30_4 := zJ BK1290.out 4; have hfz30_5 := zJ BK1290.out 5; have hfz30_6 := zJ BK1290.out 6; have hfz30_7 := zJ BK1290.out 7; have hfz30_8 := zJ BK1290.out 8; have hfz30_9 := zJ BK1290.out 9; have hfz30_10 := zJ BK1290.out 10; have hcz31_0 : w28.cell? ⟨gb1291, 0, none⟩ = some (.int .i64 a1_0) := (zK BK1291.out 0).trans rfl; have hcz31_1 : w28.cell? ⟨gb1291, 1, none⟩ = some (.int .i64 a1_1) := (zK BK1291.out 1).trans rfl; have hcz31_2 : w28.cell? ⟨gb1291, 2, none⟩ = some (.int .i64 a1_2) := (zK BK1291.out 2).trans rfl; have hcz31_3 : w28.cell? ⟨gb1291, 3, none⟩ = some (.int .i64 a1_3) := (zK BK1291.out 3).trans rfl; have hcz31_4 : w28.cell? ⟨gb1291, 4, none⟩ = some (.slice A1_4 l1_4.length c1_4) := (zK BK1291.out 4).trans rfl; have hcz31_5 : w28.cell? ⟨gb1291, 5, none⟩ = some (.int .i64 a1_5) := (zK BK1291.out 5).trans rfl; have hcz31_6 : w28.cell? ⟨gb1291, 6, none⟩ = some (.slice A1_6 l1_6.length c1_6) := (zK BK1291.out 6).trans rfl; have hcz31_7 : w28.cell? ⟨gb1291, 7, none⟩ = some (.int .i64 a1_7) := (zK BK1291.out 7).trans rfl; have hcz31_8 : w28.cell? ⟨gb1291, 8, none⟩ = some (.bool a1_8) := (zK BK1291.out 8).trans rfl; have hcz31_9 : w28.cell? ⟨gb1291, 9, none⟩ = some (.int .i64 a1_9) := (zK BK1291.out 9).trans rfl; have hcz31_10 : w28.cell? ⟨gb1291, 10, none⟩ = some (.int .i64 a1_10) := (zK BK1291.out 10).trans rfl; have hfz31_0 := zJ BK1291.out 0; have hfz31_1 := zJ BK1291.out 1; have hfz31_2 := zJ BK1291.out 2; have hfz31_3 := zJ BK1291.out 3; have hfz31_4 := zJ BK1291.out 4; have hfz31_5 := zJ BK1291.out 5; have hfz31_6 := zJ BK1291.out 6; have hfz31_7 := zJ BK1291.out 7; have hfz31_8 := zJ BK1291.out 8; have hfz31_9 := zJ BK1291.out 9; have hfz31_10 := zJ BK1291.out 10) | ((with_reducible refine gate_callee (f := 102) rfl ?_); refine goesL_ (some 14) rfl rfl Try.func102 (by kernel_rfl) rfl #[.agg #[.int .i64 a0_1, .int .i64 a0_2, .int .i64 a0_3, .slice A0_4 l0_4.length c0_4], .agg #[.int .i64 a1_1, .int .i64 a1_2, .int .i64 a1_3, .slice A1_4 l1_4.length c1_4]] rfl (by (try simp only [zU, zV, zW]); first | done | rfl | (simp only [zR, zQ]; rfl)) ?_; (with_reducible refine (laws_eqPicture.calls k a0_1 a0_2 a0_3 _ _ l0_4 a1_1 a1_2 a1_3 _ _ l1_4 true _ ?side1 ?side2 ?side3 ?side4 A4.out).mono ?_); (case side1 => repeat (first | exact (Kd.C_below HR0_4.out HB.out) | (with_reducible refine yH ?_ _) | (with_reducible refine yF ?_ _) | (with_reducible refine yG ?_))); (case side2 => exact HC0_4.out); (case side3 => repeat (first | exact (Kd.C_below HR1_4.out HB.out) | (with_reducible refine yH ?_ _) | (with_reducible refine yF ?_ _) | (with_reducible refine yG ?_))); (case side4 => exact HC1_4.out); rintro e w32 ⟨rfl, hb⟩; refine ⟨_, rfl, ?_⟩; have n0_ := zA (blk_below (g := gb1290) (o := .cells #[.int .i64 a0_0, .int .i64 a0_1, .int .i64 a0_2, .int .i64 a0_3, .slice A0_4 l0_4.length c0_4, .int .i64 a0_5, .slice A0_6 l0_6.length c0_6, .int .i64 a0_7, .bool a0_8, .int .i64 a0_9, .int .i64 a0_10] 86 (0, 0)) (by (with_reducible repeat (first | refine zG ?_ _ | refine zH ?_ | refine zD ?_ _)); exact BK1290.out) hb); have n1_ := zA (blk_below (g := gb1291) (o := .cells #[.int .i64 a1_0, .int .i64 a1_1, .int .i64 a1_2, .int .i64 a1_3, .slice A1_4 l1_4.length c1_4, .int .i64 a1_5, .slice A1_6 l1_6.length c1_6, .int .i64 a1_7, .bool a1_8, .int .i64 a1_9, .int .i64 a1_10] 86 (0, 0)) (by (with_reducible repeat (first | refine zG ?_ _ | refine zH ?_ | refine zD ?_ _)); exact BK1291.out) hb); have n2_ := zA (below_step (by repeat (first | (with_reducible first | exact HB.out | apply zC | apply zB | apply zF | refine zE ?_ GE1290.out | refine zE ?_ GE1291.out) | exact HB.out)) hb); clear BK1290; clear BK1291; clear HB; have BK1290 := n0_; have BK1291 := n1_; have HB := n2_; clear n0_ n1_ n2_; (try clear hb); (try clear hb2); (try clear hk); (try clear hi); have hcz33_0 : w32.cell? ⟨gb1290, 0, none⟩ = some (.int .i64 a0_0) := (zK BK1290.out 0).trans rfl; have hcz33_1 : w32.cell? ⟨gb1290, 1, none⟩ = some (.int .i64 a0_1) := (zK BK1290.out 1).trans rfl; have hcz33_2 : w32.cell? ⟨gb1290, 2, none⟩ = some (.int .i64 a0_2) := (zK BK1290.out 2).trans rfl; have hcz33_3 : w32.cell? ⟨gb1290, 3, none⟩ = some (.int .i64 a0_3) := (zK BK1290.out 3).trans rfl; have hcz33_4 : w32.cell? ⟨gb1290, 4, none⟩ = some (.slice A0_4 l0_4.length c0_4) := (zK BK1290.out 4).trans rfl; have hcz33_5 : w32.cell? ⟨gb1290, 5, none⟩ = some (.int .i64 a0_5) := (zK BK1290.out 5).trans rfl; have hcz33_6 : w32.cell? ⟨gb1290, 6, none⟩ = some (.slice A0_6 l0_6.length c0_6) := (zK BK1290.out 6).trans rfl; have hcz33_7 : w32.cell? ⟨gb1290, 7, none⟩ = some (.int .i64 a0_7) := (zK BK1290.out 7).trans rfl; have hcz33_8 : w32.cell? ⟨gb1290, 8, none⟩ = some (.bool a0_8) := (zK BK1290.out 8).trans rfl; have hcz33_9 : w32.cell? ⟨gb1290, 9, none⟩ = some (.int .i64 a0_9) := (zK BK1290.out 9).trans rfl; have hcz33_10 : w32.cell? ⟨gb1290, 10, none⟩ = some (.int .i64 a0_10) := (zK BK1290.out 10).trans rfl; have hfz33_0 := zJ BK1290.out 0; have hfz33_1 := zJ BK1290.out 1; have hfz33_2 := zJ BK1290.out 2; have hfz33_3 := zJ BK1290.out 3; have hfz33_4 := zJ BK1290.out 4; have hfz33_5 := zJ BK1290.out 5; have hfz33_6 := zJ BK1290.out 6; have hfz33_7 := zJ BK1290.out 7; have hfz33_8 := zJ BK1290.out 8; have hfz33_9 := zJ BK1290.out 9; have hfz33_10 := zJ BK1290.out 10; have hcz34_0 : w32.cell? ⟨gb1291, 0, none⟩ = some (.int .i64 a1_0) := (zK BK1291.out 0).trans rfl; have hcz34_1 : w32.cell? ⟨gb1291, 1, none⟩ = some (.int .i64 a1_1) := (zK BK1291.out 1).trans rfl; have hcz34_2 : w32.cell? ⟨gb1291, 2, none⟩ = some (.int .i64 a1_2) := (zK BK1291.out 2).trans rfl; have hcz34_3 : w32.cell? ⟨gb1291, 3, none⟩ = some (.int .i64 a1_3) := (zK BK1291.out 3).trans rfl; have hcz34_4 : w32.cell? ⟨gb1291, 4, none⟩ = some (.slice A1_4 l1_4.length c1_4) := (zK BK1291.out 4).trans rfl; have hcz34_5 : w32.cell? ⟨gb1291, 5, none⟩ = some (.int .i64 a1_5) := (zK BK1291.out 5).trans rfl; have hcz34_6 : w32.cell? ⟨gb1291, 6, none⟩ = some (.slice A1_6 l1_6.length c1_6) := (zK BK1291.out 6).trans rfl; have hcz34_7 : w32.cell? ⟨gb1291, 7, none⟩ = some (.int .i64 a1_7) := (zK BK1291.out 7).trans rfl; have hcz34_8 : w32.cell? ⟨gb1291, 8, none⟩ = some (.bool a1_8) := (zK BK1291.out 8).trans rfl; have hcz34_9 : w32.cell? ⟨gb1291, 9, none⟩ = some (.int .i64 a1_9) := (zK BK1291.out 9).trans rfl; have hcz34_10 : w32.cell? ⟨gb1291, 10, none⟩ = some (.int .i64 a1_10) := (zK BK1291.out 10).trans rfl; have hfz34_0 := zJ BK1291.out 0; have hfz34_1 := zJ BK1291.out 1; have hfz34_2 := zJ BK1291.out 2; have hfz34_3 := zJ BK1291.out 3; have hfz34_4 := zJ BK1291.out 4; have hfz34_5 := zJ BK1291.out 5; have hfz34_6 := zJ BK1291.out 6; have hfz34_7 := zJ BK1291.out 7; have hfz34_8 := zJ BK1291.out 8; have hfz34_9 := zJ BK1291.out 9; have hfz34_10 := zJ BK1291.out 10))
    go_ret
    exact ⟨by first | rfl | (simp [errW_none, errW_some] <;> rfl) | (simp [*, errW_none, errW_some] <;> rfl), by repeat (first | (with_reducible first | exact HB.out | apply zC | apply zB | apply zF | refine zE ?_ GE1290.out | refine zE ?_ GE1291.out) | exact HB.out)⟩
  ·replace c5 := Bool.eq_false_iff.mpr c5
   subst c5
   have H1 : (some false) = some r := by rw [if_neg (show ¬ (false = true) by decide)] at H; exact H
   clear H
   have H := H1
   clear H1
   obtain rfl := Option.some.inj H
   go_enter Try.func45, Try.ntmps45
   go_wp2_with (first | ((with_reducible refine gate_dst (N := 2) rfl ?_); refine box_event ?hg (N := 2) ?hd (cs := #[.int .i64 a0_0, .int .i64 a0_1, .int .i64 a0_2, .int .i64 a0_3, .slice A0_4 l0_4.length c0_4, .int .i64 a0_5, .slice A0_6 l0_6.length c0_6, .int .i64 a0_7, .bool a0_8, .int .i64 a0_9, .int .i64 a0_10]) (t := 86) ?hr ?_; (case hd => rfl); (case hg => rfl); (case hr => first | (go_simp; done) | (go_simp; rfl)); intro gb1290 hg w35 hbox hb; have n0_ := zA (below_step (by repeat (first | (with_reducible first | exact HB.out | apply zC | apply zB | apply zF) | exact HB.out)) hb); have n1_ := zA (hbox); have n2_ := zA ((by rw [hg]; exact (zL (by repeat (first | (with_reducible first | exact HB.out | apply zC | apply zB | apply zF) | exact HB.out))) : w.heap.size ≤ gb1290)); have n3_ := zA ((by rw [hg]; exact (zL (by repeat (first | (with_reducible first | exact HB.out | apply zC | apply zB | apply zF) | exact HB.out))) : w.heap.size ≤ gb1290)); clear HB; have HB := n0_; have BK1290 := n1_; have GW1290 := n2_; have GE1290 := n3_; clear n0_ n1_ n2_ n3_; clear hb hbox hg) | ((with_reducible refine gate_dst (N := 3) rfl ?_); refine box_event ?hg (N := 3) ?hd (cs := #[.int .i64 a1_0, .int .i64 a1_1, .int .i64 a1_2, .int .i64 a1_3, .slice A1_4 l1_4.length c1_4, .int .i64 a1_5, .slice A1_6 l1_6.length c1_6, .int .i64 a1_7, .bool a1_8, .int .i64 a1_9, .int .i64 a1_10]) (t := 86) ?hr ?_; (case hd => rfl); (case hg => rfl); (case hr => first | (go_simp; done) | (go_simp; rfl)); intro gb1291 hg w36 hbox hb; have n0_ := zA (blk_below (g := gb1290) (o := .cells #[.int .i64 a0_0, .int .i64 a0_1, .int .i64 a0_2, .int .i64 a0_3, .slice A0_4 l0_4.length c0_4, .int .i64 a0_5, .slice A0_6 l0_6.length c0_6, .int .i64 a0_7, .bool a0_8, .int .i64 a0_9, .int .i64 a0_10] 86 (0, 0)) (by (with_reducible repeat (first | refine zG ?_ _ | refine zH ?_ | refine zD ?_ _)); exact BK1290.out) hb); have n1_ := zA (below_step (by repeat (first | (with_reducible first | exact HB.out | apply zC | apply zB | apply zF | refine zE ?_ GE1290.out) | exact HB.out)) hb); have n2_ := zA (hbox); have n3_ := zA ((by rw [hg]; exact (zL (by repeat (first | (with_reducible first | exact HB.out | apply zC | apply zB | apply zF | refine zE ?_ GE1290.out) | exact HB.out))) : w.heap.size ≤ gb1291)); have n4_ := zA ((by rw [hg]; exact (zL (by repeat (first | (with_reducible first | exact HB.out | apply zC | apply zB | apply zF | refine zE ?_ GE1290.out) | exact HB.out))) : w.heap.size ≤ gb1291)); have n5_ := zA ((by rw [hg]; exact Nat.ne_of_lt (blk_lt (g := gb1290) (o := .cells #[.int .i64 a0_0, .int .i64 a0_1, .int .i64 a0_2, .int .i64 a0_3, .slice A0_4 l0_4.length c0_4, .int .i64 a0_5, .slice A0_6 l0_6.length c0_6, .int .i64 a0_7, .bool a0_8, .int .i64 a0_9, .int .i64 a0_10] 86 (0, 0)) (by (with_reducible repeat (first | refine zG ?_ _ | refine zH ?_ | refine zD ?_ _)); exact BK1290.out)) : gb1290 ≠ gb1291)); have n6_ := zA ((by rw [hg]; exact Nat.ne_of_gt (blk_lt (g := gb1290) (o := .cells #[.int .i64 a0_0, .int .i64 a0_1, .int .i64 a0_2, .int .i64 a0_3, .slice A0_4 l0_4.length c0_4, .int .i64 a0_5, .slice A0_6 l0_6.length c0_6, .int .i64 a0_7, .bool a0_8, .int .i64 a0_9, .int .i64 a0_10] 86 (0, 0)) (by (with_reducible repeat (first | refine zG ?_ _ | refine zH ?_ | refine zD ?_ _)); exact BK1290.out)) : gb1291 ≠ gb1290)); clear BK1290; clear HB; have BK1290 := n0_; have HB := n1_; have BK1291 := n2_; have GW1291 := n3_; have GE1291 := n4_; have NB1290_1291 := n5_; have NB1291_1290 := n6_; clear n0_ n1_ n2_ n3_ n4_ n5_ n6_; clear hb hbox hg; have hnb37 := NB1290_1291.out; have hnc37 := NB1291_1290.out; have hcz38_0 : w36.cell? ⟨gb1290, 0, none⟩ = some (.int .i64 a0_0) := (zK BK1290.out 0).trans rfl; have hcz38_1 : w36.cell? ⟨gb1290, 1, none⟩ = some (.int .i64 a0_1) := (zK BK1290.out 1).trans rfl; have hcz38_2 : w36.cell? ⟨gb1290, 2, none⟩ = some (.int .i64 a0_2) := (zK BK1290.out 2).trans rfl; have hcz38_3 : w36.cell? ⟨gb1290, 3, none⟩ = some (.int .i64 a0_3) := (zK BK1290.out 3).trans rfl; have hcz38_4 : w36.cell? ⟨gb1290, 4, none⟩ = some (.slice A0_4 l0_4.length c0_4) := (zK BK1290.out 4).trans rfl; have hcz38_5 : w36.cell? ⟨gb1290, 5, none⟩ = some (.int .i64 a0_5) := (zK BK1290.out 5).trans rfl; have hcz38_6 : w36.cell? ⟨gb1290, 6, none⟩ = some (.slice A0_6 l0_6.length c0_6) := (zK BK1290.out 6).trans rfl; have hcz38_7 : w36.cell? ⟨gb1290, 7, none⟩ = some (.int .i64 a0_7) := (zK BK1290.out 7).trans rfl; have hcz38_8 : w36.cell? ⟨gb1290, 8, none⟩ = some (.bool a0_8) := (zK BK1290.out 8).trans rfl; have hcz38_9 : w36.cell? ⟨gb1290, 9, none⟩ = some (.int .i64 a0_9) := (zK BK1290.out 9).trans rfl; have hcz38_10 : w36.cell? ⟨gb1290, 10, none⟩ = some (.int .i64 a0_10) := (zK BK1290.out 10).trans rfl; have hfz38_0 := zJ BK1290.out 0; have hfz38_1 := zJ BK1290.out 1; have hfz38_2 := zJ BK1290.out 2; have hfz38_3 := zJ BK1290.out 3; have hfz38_4 := zJ BK1290.out 4; have hfz38_5 := zJ BK1290.out 5; have hfz38_6 := zJ BK1290.out 6; have hfz38_7 := zJ BK1290.out 7; have hfz38_8 := zJ BK1290.out 8; have hfz38_9 := zJ BK1290.out 9; have hfz38_10 := zJ BK1290.out 10; have hcz39_0 : w36.cell? ⟨gb1291, 0, none⟩ = some (.int .i64 a1_0) := (zK BK1291.out 0).trans rfl; have hcz39_1 : w36.cell? ⟨gb1291, 1, none⟩ = some (.int .i64 a1_1) := (zK BK1291.out 1).trans rfl; have hcz39_2 : w36.cell? ⟨gb1291, 2, none⟩ = some (.int .i64 a1_2) := (zK BK1291.out 2).trans rfl; have hcz39_3 : w36.cell? ⟨gb1291, 3, none⟩ = some (.int .i64 a1_3) := (zK BK1291.out 3).trans rfl; have hcz39_4 : w36.cell? ⟨gb1291, 4, none⟩ = some (.slice A1_4 l1_4.length c1_4) := (zK BK1291.out 4).trans rfl; have hcz39_5 : w36.cell? ⟨gb1291, 5, none⟩ = some (.int .i64 a1_5) := (zK BK1291.out 5).trans rfl; have hcz39_6 : w36.cell? ⟨gb1291, 6, none⟩ = some (.slice A1_6 l1_6.length c1_6) := (zK BK1291.out 6).trans rfl; have hcz39_7 : w36.cell? ⟨gb1291, 7, none⟩ = some (.int .i64 a1_7) := (zK BK1291.out 7).trans rfl; have hcz39_8 : w36.cell? ⟨gb1291, 8, none⟩ = some (.bool a1_8) := (zK BK1291.out 8).trans rfl; have hcz39_9 : w36.cell? ⟨gb1291, 9, none⟩ = some (.int .i64 a1_9) := (zK BK1291.out 9).trans rfl; have hcz39_10 : w36.cell? ⟨gb1291, 10, none⟩ = some (.int .i64 a1_10) := (zK BK1291.out 10).trans rfl; have hfz39_0 := zJ BK1291.out 0; have hfz39_1 := zJ BK1291.out 1; have hfz39_2 := zJ BK1291.out 2; have hfz39_3 := zJ BK1291.out 3; have hfz39_4 := zJ BK1291.out 4; have hfz39_5 := zJ BK1291.out 5; have hfz39_6 := zJ BK1291.out 6; have hfz39_7 := zJ BK1291.out 7; have hfz39_8 := zJ BK1291.out 8; have hfz39_9 := zJ BK1291.out 9; have hfz39_10 := zJ BK1291.out 10) | ((with_reducible refine gate_callee (f := 102) rfl ?_); refine goesL_ (some 14) rfl rfl Try.func102 (by kernel_rfl) rfl #[.agg #[.int .i64 a0_1, .int .i64 a0_2, .int .i64 a0_3, .slice A0_4 l0_4.length c0_4], .agg #[.int .i64 a1_1, .int .i64 a1_2, .int .i64 a1_3, .slice A1_4 l1_4.length c1_4]] rfl (by (try simp only [zU, zV, zW]); first | done | rfl | (simp only [zR, zQ]; rfl)) ?_; (with_reducible refine (laws_eqPicture.calls k a0_1 a0_2 a0_3 _ _ l0_4 a1_1 a1_2 a1_3 _ _ l1_4 false _ ?side1 ?side2 ?side3 ?side4 A4.out).mono ?_); (case side1 => repeat (first | exact (Kd.C_below HR0_4.out HB.out) | (with_reducible refine yH ?_ _) | (with_reducible refine yF ?_ _) | (with_reducible refine yG ?_))); (case side2 => exact HC0_4.out); (case side3 => repeat (first | exact (Kd.C_below HR1_4.out HB.out) | (with_reducible refine yH ?_ _) | (with_reducible refine yF ?_ _) | (with_reducible refine yG ?_))); (case side4 => exact HC1_4.out); rintro e w40 ⟨rfl, hb⟩; refine ⟨_, rfl, ?_⟩; have n0_ := zA (blk_below (g := gb1290) (o := .cells #[.int .i64 a0_0, .int .i64 a0_1, .int .i64 a0_2, .int .i64 a0_3, .slice A0_4 l0_4.length c0_4, .int .i64 a0_5, .slice A0_6 l0_6.length c0_6, .int .i64 a0_7, .bool a0_8, .int .i64 a0_9, .int .i64 a0_10] 86 (0, 0)) (by (with_reducible repeat (first | refine zG ?_ _ | refine zH ?_ | refine zD ?_ _)); exact BK1290.out) hb); have n1_ := zA (blk_below (g := gb1291) (o := .cells #[.int .i64 a1_0, .int .i64 a1_1, .int .i64 a1_2, .int .i64 a1_3, .slice A1_4 l1_4.length c1_4, .int .i64 a1_5, .slice A1_6 l1_6.length c1_6, .int .i64 a1_7, .bool a1_8, .int .i64 a1_9, .int .i64 a1_10] 86 (0, 0)) (by (with_reducible repeat (first | refine zG ?_ _ | refine zH ?_ | refine zD ?_ _)); exact BK1291.out) hb); have n2_ := zA (below_step (by repeat (first | (with_reducible first | exact HB.out | apply zC | apply zB | apply zF | refine zE ?_ GE1290.out | refine zE ?_ GE1291.out) | exact HB.out)) hb); clear BK1290; clear BK1291; clear HB; have BK1290 := n0_; have BK1291 := n1_; have HB := n2_; clear n0_ n1_ n2_; (try clear hb); (try clear hb2); (try clear hk); (try clear hi)))
   go_ret
   exact ⟨by first | rfl | (simp [errW_none, errW_some] <;> rfl) | (simp [*, errW_none, errW_some] <;> rfl), by repeat (first | (with_reducible first | exact HB.out | apply zC | apply zB | apply zF | refine zE ?_ GE1290.out | refine zE ?_ GE1291.out) | exact HB.out)⟩
 ·rw [if_neg c3] at H
  have c3b0 : (a0_0 == a1_0) = false := beq_eq_false_iff_ne.mpr c3
  have c3b1 : (a0_0 != a1_0) = true := bne_iff_ne.mpr c3
  obtain rfl := Option.some.inj H
  go_enter Try.func45, Try.ntmps45
  go_wp2_with (first | ((with_reducible refine gate_dst (N := 2) rfl ?_); refine box_event ?hg (N := 2) ?hd (cs := #[.int .i64 a0_0, .int .i64 a0_1, .int .i64 a0_2, .int .i64 a0_3, .slice A0_4 l0_4.length c0_4, .int .i64 a0_5, .slice A0_6 l0_6.length c0_6, .int .i64 a0_7, .bool a0_8, .int .i64 a0_9, .int .i64 a0_10]) (t := 86) ?hr ?_; (case hd => rfl); (case hg => rfl); (case hr => first | (go_simp; done) | (go_simp; rfl)); intro gb1290 hg w41 hbox hb; have n0_ := zA (below_step (by repeat (first | (with_reducible first | exact HB.out | apply zC | apply zB | apply zF) | exact HB.out)) hb); have n1_ := zA (hbox); have n2_ := zA ((by rw [hg]; exact (zL (by repeat (first | (with_reducible first | exact HB.out | apply zC | apply zB | apply zF) | exact HB.out))) : w.heap.size ≤ gb1290)); have n3_ := zA ((by rw [hg]; exact (zL (by repeat (first | (with_reducible first | exact HB.out | apply zC | apply zB | apply zF) | exact HB.out))) : w.heap.size ≤ gb1290)); clear HB; have HB := n0_; have BK1290 := n1_; have GW1290 := n2_; have GE1290 := n3_; clear n0_ n1_ n2_ n3_; clear hb hbox hg) | ((with_reducible refine gate_dst (N := 3) rfl ?_); refine box_event ?hg (N := 3) ?hd (cs := #[.int .i64 a1_0, .int .i64 a1_1, .int .i64 a1_2, .int .i64 a1_3, .slice A1_4 l1_4.length c1_4, .int .i64 a1_5, .slice A1_6 l1_6.length c1_6, .int .i64 a1_7, .bool a1_8, .int .i64 a1_9, .int .i64 a1_10]) (t := 86) ?hr ?_; (case hd => rfl); (case hg => rfl); (case hr => first | (go_simp; done) | (go_simp; rfl)); intro gb1291 hg w42 hbox hb; have n0_ := zA (blk_below (g := gb1290) (o := .cells #[.int .i64 a0_0, .int .i64 a0_1, .int .i64 a0_2, .int .i64 a0_3, .slice A0_4 l0_4.length c0_4, .int .i64 a0_5, .slice A0_6 l0_6.length c0_6, .int .i64 a0_7, .bool a0_8, .int .i64 a0_9, .int .i64 a0_10] 86 (0, 0)) (by (with_reducible repeat (first | refine zG ?_ _ | refine zH ?_ | refine zD ?_ _)); exact BK1290.out) hb); have n1_ := zA (below_step (by repeat (first | (with_reducible first | exact HB.out | apply zC | apply zB | apply zF | refine zE ?_ GE1290.out) | exact HB.out)) hb); have n2_ := zA (hbox); have n3_ := zA ((by rw [hg]; exact (zL (by repeat (first | (with_reducible first | exact HB.out | apply zC | apply zB | apply zF | refine zE ?_ GE1290.out) | exact HB.out))) : w.heap.size ≤ gb1291)); have n4_ := zA ((by rw [hg]; exact (zL (by repeat (first | (with_reducible first | exact HB.out | apply zC | apply zB | apply zF | refine zE ?_ GE1290.out) | exact HB.out))) : w.heap.size ≤ gb1291)); have n5_ := zA ((by rw [hg]; exact Nat.ne_of_lt (blk_lt (g := gb1290) (o := .cells #[.int .i64 a0_0, .int .i64 a0_1, .int .i64 a0_2, .int .i64 a0_3, .slice A0_4 l0_4.length c0_4, .int .i64 a0_5, .slice A0_6 l0_6.length c0_6, .int .i64 a0_7, .bool a0_8, .int .i64 a0_9, .int .i64 a0_10] 86 (0, 0)) (by (with_reducible repeat (first | refine zG ?_ _ | refine zH ?_ | refine zD ?_ _)); exact BK1290.out)) : gb1290 ≠ gb1291)); have n6_ := zA ((by rw [hg]; exact Nat.ne_of_gt (blk_lt (g := gb1290) (o := .cells #[.int .i64 a0_0, .int .i64 a0_1, .int .i64 a0_2, .int .i64 a0_3, .slice A0_4 l0_4.length c0_4, .int .i64 a0_5, .slice A0_6 l0_6.length c0_6, .int .i64 a0_7, .bool a0_8, .int .i64 a0_9, .int .i64 a0_10] 86 (0, 0)) (by (with_reducible repeat (first | refine zG ?_ _ | refine zH ?_ | refine zD ?_ _)); exact BK1290.out)) : gb1291 ≠ gb1290)); clear BK1290; clear HB; have BK1290 := n0_; have HB := n1_; have BK1291 := n2_; have GW1291 := n3_; have GE1291 := n4_; have NB1290_1291 := n5_; have NB1291_1290 := n6_; clear n0_ n1_ n2_ n3_ n4_ n5_ n6_; clear hb hbox hg; have hnb43 := NB1290_1291.out; have hnc43 := NB1291_1290.out; have hcz44_0 : w42.cell? ⟨gb1290, 0, none⟩ = some (.int .i64 a0_0) := (zK BK1290.out 0).trans rfl; have hcz44_1 : w42.cell? ⟨gb1290, 1, none⟩ = some (.int .i64 a0_1) := (zK BK1290.out 1).trans rfl; have hcz44_2 : w42.cell? ⟨gb1290, 2, none⟩ = some (.int .i64 a0_2) := (zK BK1290.out 2).trans rfl; have hcz44_3 : w42.cell? ⟨gb1290, 3, none⟩ = some (.int .i64 a0_3) := (zK BK1290.out 3).trans rfl; have hcz44_4 : w42.cell? ⟨gb1290, 4, none⟩ = some (.slice A0_4 l0_4.length c0_4) := (zK BK1290.out 4).trans rfl; have hcz44_5 : w42.cell? ⟨gb1290, 5, none⟩ = some (.int .i64 a0_5) := (zK BK1290.out 5).trans rfl; have hcz44_6 : w42.cell? ⟨gb1290, 6, none⟩ = some (.slice A0_6 l0_6.length c0_6) := (zK BK1290.out 6).trans rfl; have hcz44_7 : w42.cell? ⟨gb1290, 7, none⟩ = some (.int .i64 a0_7) := (zK BK1290.out 7).trans rfl; have hcz44_8 : w42.cell? ⟨gb1290, 8, none⟩ = some (.bool a0_8) := (zK BK1290.out 8).trans rfl; have hcz44_9 : w42.cell? ⟨gb1290, 9, none⟩ = some (.int .i64 a0_9) := (zK BK1290.out 9).trans rfl; have hcz44_10 : w42.cell? ⟨gb1290, 10, none⟩ = some (.int .i64 a0_10) := (zK BK1290.out 10).trans rfl; have hfz44_0 := zJ BK1290.out 0; have hfz44_1 := zJ BK1290.out 1; have hfz44_2 := zJ BK1290.out 2; have hfz44_3 := zJ BK1290.out 3; have hfz44_4 := zJ BK1290.out 4; have hfz44_5 := zJ BK1290.out 5; have hfz44_6 := zJ BK1290.out 6; have hfz44_7 := zJ BK1290.out 7; have hfz44_8 := zJ BK1290.out 8; have hfz44_9 := zJ BK1290.out 9; have hfz44_10 := zJ BK1290.out 10; have hcz45_0 : w42.cell? ⟨gb1291, 0, none⟩ = some (.int .i64 a1_0) := (zK BK1291.out 0).trans rfl; have hcz45_1 : w42.cell? ⟨gb1291, 1, none⟩ = some (.int .i64 a1_1) := (zK BK1291.out 1).trans rfl; have hcz45_2 : w42.cell? ⟨gb1291, 2, none⟩ = some (.int .i64 a1_2) := (zK BK1291.out 2).trans rfl; have hcz45_3 : w42.cell? ⟨gb1291, 3, none⟩ = some (.int .i64 a1_3) := (zK BK1291.out 3).trans rfl; have hcz45_4 : w42.cell? ⟨gb1291, 4, none⟩ = some (.slice A1_4 l1_4.length c1_4) := (zK BK1291.out 4).trans rfl; have hcz45_5 : w42.cell? ⟨gb1291, 5, none⟩ = some (.int .i64 a1_5) := (zK BK1291.out 5).trans rfl; have hcz45_6 : w42.cell? ⟨gb1291, 6, none⟩ = some (.slice A1_6 l1_6.length c1_6) := (zK BK1291.out 6).trans rfl; have hcz45_7 : w42.cell? ⟨gb1291, 7, none⟩ = some (.int .i64 a1_7) := (zK BK1291.out 7).trans rfl; have hcz45_8 : w42.cell? ⟨gb1291, 8, none⟩ = some (.bool a1_8) := (zK BK1291.out 8).trans rfl; have hcz45_9 : w42.cell? ⟨gb1291, 9, none⟩ = some (.int .i64 a1_9) := (zK BK1291.out 9).trans rfl; have hcz45_10 : w42.cell? ⟨gb1291, 10, none⟩ = some (.int .i64 a1_10) := (zK BK1291.out 10).trans rfl; have hfz45_0 := zJ BK1291.out 0; have hfz45_1 := zJ BK1291.out 1; have hfz45_2 := zJ BK1291.out 2; have hfz45_3 := zJ BK1291.out 3; have hfz45_4 := zJ BK1291.out 4; have hfz45_5 := zJ BK1291.out 5; have hfz45_6 := zJ BK1291.out 6; have hfz45_7 := zJ BK1291.out 7; have hfz45_8 := zJ BK1291.out 8; have hfz45_9 := zJ BK1291.out 9; have hfz45_10 := zJ BK1291.out 10))
  go_ret
  exact ⟨by first | rfl | (simp [errW_none, errW_some] <;> rfl) | (simp [*, errW_none, errW_some] <;> rfl), by repeat (first | (with_reducible first | exact HB.out | apply zC | apply zB | apply zF | refine zE ?_ GE1290.out | refine zE ?_ GE1291.out) | exact HB.out)⟩
end Go.Proofs.Ytilimpjcdeeaiaa.G


namespace Go.Proofs.Ytilimpjcdeeaiaa.G
open Go.RowKit Go.Proofs.YtilimpjcdeeaiaaW.PrintWords Go.Proofs.YtilimpjcdeeaiaaW.PrintLast Go.Proofs.YtilimpjcdeeaiaaW.PrintMore
attribute [local go_sem] max2_int min2_int max_two min_two max_three min_three max_four min_four   -- for this text's walks alone
def laws_FnExactDeskOk.f (k : Nat) (a0_0 : Int) (a0_1 : Int) (a0_2 : Int) (a0_3 : Int) (l0_4 : List (List Int)) (a0_5 : Int) (l0_6 : List Int) (a0_7 : Int) (a0_8 : Bool) (a0_9 : Int) (a0_10 : Int) : Option (Bool) := (laws_szDesk.f k a0_0 a0_1 a0_2 a0_3 l0_4 a0_5 l0_6 a0_7 a0_8 a0_9 a0_10 1048576).bind fun t1295 => (if t1295 < 0 then (some true) else ((laws_toDesk.f k a0_0 a0_1 a0_2 a0_3 l0_4 a0_5 l0_6 a0_7 a0_8 a0_9 a0_10).bind fun bt1296 => ((spec_DeskOk.f k bt1296.1 bt1296.2.1 bt1296.2.2.1 bt1296.2.2.2.1 bt1296.2.2.2.2.1 bt1296.2.2.2.2.2.1 bt1296.2.2.2.2.2.2.1 bt1296.2.2.2.2.2.2.2.1 bt1296.2.2.2.2.2.2.2.2.1 bt1296.2.2.2.2.2.2.2.2.2.1 bt1296.2.2.2.2.2.2.2.2.2.2).bind fun t1311 => ((laws_toDesk.f k a0_0 a0_1 a0_2 a0_3 l0_4 a0_5 l0_6 a0_7 a0_8 a0_9 a0_10).bind fun bt1312 => ((impl_DeskOk.f k bt1312.1 bt1312.2.1 bt1312.2.2.1 bt1312.2.2.2.1 bt1312.2.2.2.2.1 bt1312.2.2.2.2.2.1 bt1312.2.2.2.2.2.2.1 bt1312.2.2.2.2.2.2.2.1 bt1312.2.2.2.2.2.2.2.2.1 bt1312.2.2.2.2.2.2.2.2.2.1 bt1312.2.2.2.2.2.2.2.2.2.2).bind fun t1328 => (if (t1328 != t1311) = true then (some false) else ((laws_toDesk.f k a0_0 a0_1 a0_2 a0_3 l0_4 a0_5 l0_6 a0_7 a0_8 a0_9 a0_10).bind fun bt1329 => ((laws_eqDesk.f k bt1312.1 bt1312.2.1 bt1312.2.2.1 bt1312.2.2.2.1 bt1312.2.2.2.2.1 bt1312.2.2.2.2.2.1 bt1312.2.2.2.2.2.2.1 bt1312.2.2.2.2.2.2.2.1 bt1312.2.2.2.2.2.2.2.2.1 bt1312.2.2.2.2.2.2.2.2.2.1 bt1312.2.2.2.2.2.2.2.2.2.2 bt1329.1 bt1329.2.1 bt1329.2.2.1 bt1329.2.2.2.1 bt1329.2.2.2.2.1 bt1329.2.2.2.2.2.1 bt1329.2.2.2.2.2.2.1 bt1329.2.2.2.2.2.2.2.1 bt1329.2.2.2.2.2.2.2.2.1 bt1329.2.2.2.2.2.2.2.2.2.1 bt1329.2.2.2.2.2.2.2.2.2.2).bind fun t1344 => (if t1344 = true then (some true) else (some false))))))))))
theorem laws_FnExactDeskOk.mono : ∀ a0 a1 a2 a3 a4 a5 a6 a7 a8 a9 a10 k, LeO (laws_FnExactDeskOk.f k a0 a1 a2 a3 a4 a5 a6 a7 a8 a9 a10) (laws_FnExactDeskOk.f (k + 1) a0 a1 a2 a3 a4 a5 a6 a7 a8 a9 a10) := by
 intro a0 a1 a2 a3 a4 a5 a6 a7 a8 a9 a10 k
 unfold laws_FnExactDeskOk.f
 repeat' first
   | (with_reducible exact impl_DeskOk.mono _ _ _ _ _ _ _ _ _ _ _ _)
   | (with_reducible exact laws_eqDesk.mono _ _ _ _ _ _ _ _ _ _ _ _ _ _ _ _ _ _ _ _ _ _ _)
   | (with_reducible exact laws_szDesk.mono _ _ _ _ _ _ _ _ _ _ _ _ _)
   | (with_reducible exact laws_toDesk.mono _ _ _ _ _ _ _ _ _ _ _ _)
   | (with_reducible exact spec_DeskOk.mono _ _ _ _ _ _ _ _ _ _ _ _)
   | (with_reducible exact LeO.refl _)
   | (with_reducible exact LeO.none _)
   | (with_reducible refine LeO.ite ?_ ?_)
   | (with_reducible refine LeO.bind ?_ (fun _ => ?_))
   | exact impl_DeskOk.mono _ _ _ _ _ _ _ _ _ _ _ _
   | exact laws_eqDesk.mono _ _ _ _ _ _ _ _ _ _ _ _ _ _ _ _ _ _ _ _ _ _ _
   | exact laws_szDesk.mono _ _ _ _ _ _ _ _ _ _ _ _ _
   | exact laws_toDesk.mono _ _ _ _ _ _ _ _ _ _ _ _
   | exact spec_DeskOk.mono _ _ _ _ _ _ _ _ _ _ _ _
   | exact LeO.none _
   | refine LeO.ite ?_ ?_
   | refine LeO.bind ?_ (fun _ => ?_)
set_option maxHeartbeats 8000000 in
set_option maxRecDepth 100000 in
theorem laws_FnExactDeskOk.calls (k : Nat) (a0_0 : Int) (a0_1 : Int) (a0_2 : Int) (a0_3 : Int) (A0_4 : Option Addr) (c0_4 : Nat) (l0_4 : List (List Int)) (a0_5 : Int) (A0_6 : Option Addr) (c0_6 : Nat) (l0_6 : List Int) (a0_7 : Int) (a0_8 : Bool) (a0_9 : Int) (a0_10 : Int) (w : World) (hr0_4 : Kd.C (Kd.slice 3 (Kd.int .i64)) w A0_4 l0_4.length l0_4) (hc0_4 : l0_4.length ≤ c0_4) (hr0_6 : Kd.C (Kd.int .u8) w A0_6 l0_6.length l0_6) (hc0_6 : l0_6.length ≤ c0_6) (h : laws_FnExactDeskOk.f k a0_0 a0_1 a0_2 a0_3 l0_4 a0_5 l0_6 a0_7 a0_8 a0_9 a0_10 = some true) :
  Calls Try.prog 6 #[.agg #[.int .i64 a0_0, .int .i64 a0_1, .int .i64 a0_2, .int .i64 a0_3, .slice A0_4 l0_4.length c0_4, .int .i64 a0_5, .slice A0_6 l0_6.length c0_6, .int .i64 a0_7, .bool a0_8, .int .i64 a0_9, .int .i64 a0_10]] w fun e w' => e = .returned (.bool true) ∧ Below w.heap.size w w' := by
 have hu78 := Try.underlying78
 have hu86 := Try.underlying86
 have HR0_4 := zA hr0_4
 have HC0_4 := zA hc0_4
 clear hr0_4 hc0_4
 have HR0_6 := zA hr0_6
 have HC0_6 := zA hc0_6
 clear hr0_6 hc0_6
 have HB := zA (Below.refl w.heap.size w)
 have H : ((laws_szDesk.f k a0_0 a0_1 a0_2 a0_3 l0_4 a0_5 l0_6 a0_7 a0_8 a0_9 a0_10 1048576).bind fun t1295 => (if t1295 < 0 then (some true) else ((laws_toDesk.f k a0_0 a0_1 a0_2 a0_3 l0_4 a0_5 l0_6 a0_7 a0_8 a0_9 a0_10).bind fun bt1296 => ((spec_DeskOk.f k bt1296.1 bt1296.2.1 bt1296.2.2.1 bt1296.2.2.2.1 bt1296.2.2.2.2.1 bt1296.2.2.2.2.2.1 bt1296.2.2.2.2.2.2.1 bt1296.2.2.2.2.2.2.2.1 bt1296.2.2.2.2.2.2.2.2.1 bt1296.2.2.2.2.2.2.2.2.2.1 bt1296.2.2.2.2.2.2.2.2.2.2).bind fun t1311 => ((laws_toDesk.f k a0_0 a0_1 a0_2 a0_3 l0_4 a0_5 l0_6 a0_7 a0_8 a0_9 a0_10).bind fun bt1312 => ((impl_DeskOk.f k bt1312.1 bt1312.2.1 bt1312.2.2.1 bt1312.2.2.2.1 bt1312.2.2.2.2.1 bt1312.2.2.2.2.2.1 bt1312.2.2.2.2.2.2.1 bt1312.2.2.2.2.2.2.2.1 bt1312.2.2.2.2.2.2.2.2.1 bt1312.2.2.2.2.2.2.2.2.2.1 bt1312.2.2.2.2.2.2.2.2.2.2).bind fun t1328 => (if (t1328 != t1311) = true then (some false) else ((laws_toDesk.f k a0_0 a0_1 a0_2 a0_3 l0_4 a0_5 l0_6 a0_7 a0_8 a0_9 a0_10).bind fun bt1329 => ((laws_eqDesk.f k bt1312.1 bt1312.2.1 bt1312.2.2.1 bt1312.2.2.2.1 bt1312.2.2.2.2.1 bt1312.2.2.2.2.2.1 bt1312.2.2.2.2.2.2.1 bt1312.2.2.2.2.2.2.2.1 bt1312.2.2.2.2.2.2.2.2.1 bt1312.2.2.2.2.2.2.2.2.2.1 bt1312.2.2.2.2.2.2.2.2.2.2 bt1329.1 bt1329.2.1 bt1329.2.2.1 bt1329.2.2.2.1 bt1329.2.2.2.2.1 bt1329.2.2.2.2.2.1 bt1329.2.2.2.2.2.2.1 bt1329.2.2.2.2.2.2.2.1 bt1329.2.2.2.2.2.2.2.2.1 bt1329.2.2.2.2.2.2.2.2.2.1 bt1329.2.2.2.2.2.2.2.2.2.2).bind fun t1344 => (if t1344 = true then (some true) else (some false))))))))))) = some true := h
 clear h
 replace H := Option.bind_eq_some_iff.mp H
 obtain ⟨t1295, A20, H⟩ := H
 replace H : (if t1295 < 0 then (some true) else ((laws_toDesk.f k a0_0 a0_1 a0_2 a0_3 l0_4 a0_5 l0_6 a0_7 a0_8 a0_9 a0_10).bind fun bt1296 => ((spec_DeskOk.f k bt1296.1 bt1296.2.1 bt1296.2.2.1 bt1296.2.2.2.1 bt1296.2.2.2.2.1 bt1296.2.2.2.2.2.1 bt1296.2.2.2.2.2.2.1 bt1296.2.2.2.2.2.2.2.1 bt1296.2.2.2.2.2.2.2.2.1 bt1296.2.2.2.2.2.2.2.2.2.1 bt1296.2.2.2.2.2.2.2.2.2.2).bind fun t1311 => ((laws_toDesk.f k a0_0 a0_1 a0_2 a0_3 l0_4 a0_5 l0_6 a0_7 a0_8 a0_9 a0_10).bind fun bt1312 => ((impl_DeskOk.f k bt1312.1 bt1312.2.1 bt1312.2.2.1 bt1312.2.2.2.1 bt1312.2.2.2.2.1 bt1312.2.2.2.2.2.1 bt1312.2.2.2.2.2.2.1 bt1312.2.2.2.2.2.2.2.1 bt1312.2.2.2.2.2.2.2.2.1 bt1312.2.2.2.2.2.2.2.2.2.1 bt1312.2.2.2.2.2.2.2.2.2.2).bind fun t1328 => (if (t1328 != t1311) = true then (some false) else ((laws_toDesk.f k a0_0 a0_1 a0_2 a0_3 l0_4 a0_5 l0_6 a0_7 a0_8 a0_9 a0_10).bind fun bt1329 => ((laws_eqDesk.f k bt1312.1 bt1312.2.1 bt1312.2.2.1 bt1312.2.2.2.1 bt1312.2.2.2.2.1 bt1312.2.2.2.2.2.1 bt1312.2.2.2.2.2.2.1 bt1312.2.2.2.2.2.2.2.1 bt1312.2.2.2.2.2.2.2.2.1 bt1312.2.2.2.2.2.2.2.2.2.1 bt1312.2.2.2.2.2.2.2.2.2.2 bt1329.1 bt1329.2.1 bt1329.2.2.1 bt1329.2.2.2.1 bt1329.2.2.2.2.1 bt1329.2.2.2.2.2.1 bt1329.2.2.2.2.2.2.1 bt1329.2.2.2.2.2.2.2.1 bt1329.2.2.2.2.2.2.2.2.1 bt1329.2.2.2.2.2.2.2.2.2.1 bt1329.2.2.2.2.2.2.2.2.2.2).bind fun t1344 => (if t1344 = true then (some true) else (some false)))))))))) = some true := H
 have A2 := zA A20
 clear A20
 by_cases c3 : t1295 < 0
 ·rw [if_pos c3] at H
  have c3b0 : decide (t1295 < 0) = true := zT c3
  clear c3
  go_enter Try.func6, Try.ntmps6
  go_wp2_with (first | ((with_reducible refine gate_dst (N := 1) rfl ?_); refine box_event ?hg (N := 1) ?hd (cs := #[.int .i64 a0_0, .int .i64 a0_1, .int .i64 a0_2, .int .i64 a0_3, .slice A0_4 l0_4.length c0_4, .int .i64 a0_5, .slice A0_6 l0_6.length c0_6, .int .i64 a0_7, .bool a0_8, .int .i64 a0_9, .int .i64 a0_10]) (t := 78) ?hr ?_; (case hd => rfl); (case hg => rfl); (case hr => first | (go_simp; done) | (go_simp; rfl)); intro gb1294 hg w4 hbox hb; have n0_ := zA (below_step (by repeat (first | (with_reducible first | exact HB.out | apply zC | apply zB | apply zF) | exact HB.out)) hb); have n1_ := zA (hbox); have n2_ := zA ((by rw [hg]; exact (zL (by repeat (first | (with_reducible first | exact HB.out | apply zC | apply zB | apply zF) | exact HB.out))) : w.heap.size ≤ gb1294)); have n3_ := zA ((by rw [hg]; exact (zL (by repeat (first | (with_reducible first | exact HB.out | apply zC | apply zB | apply zF) | exact HB.out))) : w.heap.size ≤ gb1294)); clear HB; have HB := n0_; have BK1294 := n1_; have GW1294 := n2_; have GE1294 := n3_; clear n0_ n1_ n2_ n3_; clear hb hbox hg; have hcz5_0 : w4.cell? ⟨gb1294, 0, none⟩ = some (.int .i64 a0_0) := (zK BK1294.out 0).trans rfl; have hcz5_1 : w4.cell? ⟨gb1294, 1, none⟩ = some (.int .i64 a0_1) := (zK BK1294.out 1).trans rfl; have hcz5_2 : w4.cell? ⟨gb1294, 2, none⟩ = some (.int .i64 a0_2) := (zK BK1294.out 2).trans rfl; have hcz5_3 : w4.cell? ⟨gb1294, 3, none⟩ = some (.int .i64 a0_3) := (zK BK1294.out 3).trans rfl; have hcz5_4 : w4.cell? ⟨gb1294, 4, none⟩ = some (.slice A0_4 l0_4.length c0_4) := (zK BK1294.out 4).trans rfl; have hcz5_5 : w4.cell? ⟨gb1294, 5, none⟩ = some (.int .i64 a0_5) := (zK BK1294.out 5).trans rfl; have hcz5_6 : w4.cell? ⟨gb1294, 6, none⟩ = some (.slice A0_6 l0_6.length c0_6) := (zK BK1294.out 6).trans rfl; have hcz5_7 : w4.cell? ⟨gb1294, 7, none⟩ = some (.int .i64 a0_7) := (zK BK1294.out 7).trans rfl; have hcz5_8 : w4.cell? ⟨gb1294, 8, none⟩ = some (.bool a0_8) := (zK BK1294.out 8).trans rfl; have hcz5_9 : w4.cell? ⟨gb1294, 9, none⟩ = some (.int .i64 a0_9) := (zK BK1294.out 9).trans rfl; have hcz5_10 : w4.cell? ⟨gb1294, 10, none⟩ = some (.int .i64 a0_10) := (zK BK1294.out 10).trans rfl; have hfz5_0 := zJ BK1294.out 0; have hfz5_1 := zJ BK1294.out 1; have hfz5_2 := zJ BK1294.out 2; have hfz5_3 := zJ BK1294.out 3; have hfz5_4 := zJ BK1294.out 4; have hfz5_5 := zJ BK1294.out 5; have hfz5_6 := zJ BK1294.out 6; have hfz5_7 := zJ BK1294.out 7; have hfz5_8 := zJ BK1294.out 8; have hfz5_9 := zJ BK1294.out 9; have hfz5_10 := zJ BK1294.out 10) | ((with_reducible refine gate_callee (f := 41) rfl ?_); refine goesL_ (some 9) rfl rfl Try.func41 (by kernel_rfl) rfl #[.agg #[.int .i64 a0_0, .int .i64 a0_1, .int .i64 a0_2, .int .i64 a0_3, .slice A0_4 l0_4.length c0_4, .int .i64 a0_5, .slice A0_6 l0_6.length c0_6, .int .i64 a0_7, .bool a0_8, .int .i64 a0_9, .int .i64 a0_10], .int .i64 1048576] rfl (by (try simp only [zU, zV, zW]); first | done | rfl | (simp only [zR, zQ]; rfl)) ?_; (with_reducible refine (laws_szDesk.calls k a0_0 a0_1 a0_2 a0_3 _ _ l0_4 a0_5 _ _ l0_6 a0_7 a0_8 a0_9 a0_10 1048576 t1295 _ ?side1 ?side2 ?side3 ?side4 A2.out).mono ?_); (case side1 => repeat (first | exact (Kd.C_below HR0_4.out HB.out) | (with_reducible refine yH ?_ _) | (with_reducible refine yF ?_ _) | (with_reducible refine yG ?_))); (case side2 => exact HC0_4.out); (case side3 => repeat (first | exact (Kd.C_below HR0_6.out HB.out) | (with_reducible refine yH ?_ _) | (with_reducible refine yF ?_ _) | (with_reducible refine yG ?_))); (case side4 => exact HC0_6.out); rintro e w6 ⟨rfl, hb⟩; refine ⟨_, rfl, ?_⟩; have n0_ := zA (blk_below (g := gb1294) (o := .cells #[.int .i64 a0_0, .int .i64 a0_1, .int .i64 a0_2, .int .i64 a0_3, .slice A0_4 l0_4.length c0_4, .int .i64 a0_5, .slice A0_6 l0_6.length c0_6, .int .i64 a0_7, .bool a0_8, .int .i64 a0_9, .int .i64 a0_10] 78 (0, 0)) (by (with_reducible repeat (first | refine zG ?_ _ | refine zH ?_ | refine zD ?_ _)); exact BK1294.out) hb); have n1_ := zA (below_step (by repeat (first | (with_reducible first | exact HB.out | apply zC | apply zB | apply zF | refine zE ?_ GE1294.out) | exact HB.out)) hb); clear BK1294; clear HB; have BK1294 := n0_; have HB := n1_; clear n0_ n1_; (try clear hb); (try clear hb2); (try clear hk); (try clear hi)))
  go_ret
  exact ⟨by first | rfl | (simp [errW_none, errW_some] <;> rfl) | (simp [*, errW_none, errW_some] <;> rfl), by repeat (first | (with_reducible first | exact HB.out | apply zC | apply zB | apply zF | refine zE ?_ GE1294.out) | exact HB.out)⟩
 ·rw [if_neg c3] at H
  have c3b0 : decide (t1295 < 0) = false := decide_eq_false c3
  clear c3
  replace H := Option.bind_eq_some_iff.mp H
  obtain ⟨⟨t1296, t1297, t1298, t1299, t1300, t1303, t1304, t1307, t1308, t1309, t1310⟩, A70, H⟩ := H
  replace H : ((spec_DeskOk.f k t1296 t1297 t1298 t1299 t1300 t1303 t1304 t1307 t1308 t1309 t1310).bind fun t1311 => ((laws_toDesk.f k a0_0 a0_1 a0_2 a0_3 l0_4 a0_5 l0_6 a0_7 a0_8 a0_9 a0_10).bind fun bt1312 => ((impl_DeskOk.f k bt1312.1 bt1312.2.1 bt1312.2.2.1 bt1312.2.2.2.1 bt1312.2.2.2.2.1 bt1312.2.2.2.2.2.1 bt1312.2.2.2.2.2.2.1 bt1312.2.2.2.2.2.2.2.1 bt1312.2.2.2.2.2.2.2.2.1 bt1312.2.2.2.2.2.2.2.2.2.1 bt1312.2.2.2.2.2.2.2.2.2.2).bind fun t1328 => (if (t1328 != t1311) = true then (some false) else ((laws_toDesk.f k a0_0 a0_1 a0_2 a0_3 l0_4 a0_5 l0_6 a0_7 a0_8 a0_9 a0_10).bind fun bt1329 => ((laws_eqDesk.f k bt1312.1 bt1312.2.1 bt1312.2.2.1 bt1312.2.2.2.1 bt1312.2.2.2.2.1 bt1312.2.2.2.2.2.1 bt1312.2.2.2.2.2.2.1 bt1312.2.2.2.2.2.2.2.1 bt1312.2.2.2.2.2.2.2.2.1 bt1312.2.2.2.2.2.2.2.2.2.1 bt1312.2.2.2.2.2.2.2.2.2.2 bt1329.1 bt1329.2.1 bt1329.2.2.1 bt1329.2.2.2.1 bt1329.2.2.2.2.1 bt1329.2.2.2.2.2.1 bt1329.2.2.2.2.2.2.1 bt1329.2.2.2.2.2.2.2.1 bt1329.2.2.2.2.2.2.2.2.1 bt1329.2.2.2.2.2.2.2.2.2.1 bt1329.2.2.2.2.2.2.2.2.2.2).bind fun t1344 => (if t1344 = true then (some true) else (some false)))))))) = some true := H
  have A7 := zA A70
  clear A70
  replace H := Option.bind_eq_some_iff.mp H
  obtain ⟨t1311, A80, H⟩ := H
  replace H : ((laws_toDesk.f k a0_0 a0_1 a0_2 a0_3 l0_4 a0_5 l0_6 a0_7 a0_8 a0_9 a0_10).bind fun bt1312 => ((impl_DeskOk.f k bt1312.1 bt1312.2.1 bt1312.2.2.1 bt1312.2.2.2.1 bt1312.2.2.2.2.1 bt1312.2.2.2.2.2.1 bt1312.2.2.2.2.2.2.1 bt1312.2.2.2.2.2.2.2.1 bt1312.2.2.2.2.2.2.2.2.1 bt1312.2.2.2.2.2.2.2.2.2.1 bt1312.2.2.2.2.2.2.2.2.2.2).bind fun t1328 => (if (t1328 != t1311) = true then (some false) else ((laws_toDesk.f k a0_0 a0_1 a0_2 a0_3 l0_4 a0_5 l0_6 a0_7 a0_8 a0_9 a0_10).bind fun bt1329 => ((laws_eqDesk.f k bt1312.1 bt1312.2.1 bt1312.2.2.1 bt1312.2.2.2.1 bt1312.2.2.2.2.1 bt1312.2.2.2.2.2.1 bt1312.2.2.2.2.2.2.1 bt1312.2.2.2.2.2.2.2.1 bt1312.2.2.2.2.2.2.2.2.1 bt1312.2.2.2.2.2.2.2.2.2.1 bt1312.2.2.2.2.2.2.2.2.2.2 bt1329.1 bt1329.2.1 bt1329.2.2.1 bt1329.2.2.2.1 bt1329.2.2.2.2.1 bt1329.2.2.2.2.2.1 bt1329.2.2.2.2.2.2.1 bt1329.2.2.2.2.2.2.2.1 bt1329.2.2.2.2.2.2.2.2.1 bt1329.2.2.2.2.2.2.2.2.2.1 bt1329.2.2.2.2.2.2.2.2.2.2).bind fun t1344 => (if t1344 = true then (some true) else (some false))))))) = some true := H
  have A8 := zA A80
  clear A80
  replace H := Option.bind_eq_some_iff.mp H
  obtain ⟨⟨t1312, t1313, t1314, t1315, t1316, t1319, t1320, t1323, t1324, t1325, t1326⟩, A90, H⟩ := H
  replace H : ((impl_DeskOk.f k t1312 t1313 t1314 t1315 t1316 t1319 t1320 t1323 t1324 t1325 t1326).bind fun t1328 => (if (t1328 != t1311) = true then (some false) else ((laws_toDesk.f k a0_0 a0_1 a0_2 a0_3 l0_4 a0_5 l0_6 a0_7 a0_8 a0_9 a0_10).bind fun bt1329 => ((laws_eqDesk.f k t1312 t1313 t1314 t1315 t1316 t1319 t1320 t1323 t1324 t1325 t1326 bt1329.1 bt1329.2.1 bt1329.2.2.1 bt1329.2.2.2.1 bt1329.2.2.2.2.1 bt1329.2.2.2.2.2.1 bt1329.2.2.2.2.2.2.1 bt1329.2.2.2.2.2.2.2.1 bt1329.2.2.2.2.2.2.2.2.1 bt1329.2.2.2.2.2.2.2.2.2.1 bt1329.2.2.2.2.2.2.2.2.2.2).bind fun t1344 => (if t1344 = true then (some true) else (some false)))))) = some true := H
  have A9 := zA A90
  clear A90
  replace H := Option.bind_eq_some_iff.mp H
  obtain ⟨t1328, A100, H⟩ := H
  replace H : (if (t1328 != t1311) = true then (some false) else ((laws_toDesk.f k a0_0 a0_1 a0_2 a0_3 l0_4 a0_5 l0_6 a0_7 a0_8 a0_9 a0_10).bind fun bt1329 => ((laws_eqDesk.f k t1312 t1313 t1314 t1315 t1316 t1319 t1320 t1323 t1324 t1325 t1326 bt1329.1 bt1329.2.1 bt1329.2.2.1 bt1329.2.2.2.1 bt1329.2.2.2.2.1 bt1329.2.2.2.2.2.1 bt1329.2.2.2.2.2.2.1 bt1329.2.2.2.2.2.2.2.1 bt1329.2.2.2.2.2.2.2.2.1 bt1329.2.2.2.2.2.2.2.2.2.1 bt1329.2.2.2.2.2.2.2.2.2.2).bind fun t1344 => (if t1344 = true then (some true) else (some false))))) = some true := H
  have A10 := zA A100
  clear A100
  by_cases c11 : (t1328 != t1311) = true
  ·rw [if_pos c11] at H
   exact absurd (Option.some.inj H) Bool.false_ne_true
  ·rw [if_neg c11] at H
   have c11b0 : (t1328 != t1311) = false := by simpa using c11
   (try (have c11b1 : decide (t1328 = t1311) = true := by simpa using c11))
   (try (have c11b2 : (t1328 == t1311) = true := by simpa using c11))
   clear c11
   replace H := Option.bind_eq_some_iff.mp H
   obtain ⟨⟨t1329, t1330, t1331, t1332, t1333, t1336, t1337, t1340, t1341, t1342, t1343⟩, A280, H⟩ := H
   replace H : ((laws_eqDesk.f k t1312 t1313 t1314 t1315 t1316 t1319 t1320 t1323 t1324 t1325 t1326 t1329 t1330 t1331 t1332 t1333 t1336 t1337 t1340 t1341 t1342 t1343).bind fun t1344 => (if t1344 = true then (some true) else (some false))) = some true := H
   have A28 := zA A280
   clear A280
   replace H := Option.bind_eq_some_iff.mp H
   obtain ⟨t1344, A290, H⟩ := H
   replace H : (if t1344 = true then (some true) else (some false)) = some true := H
   have A29 := zA A290
   clear A290
   by_cases c30 : t1344 = true
   ·subst c30
    have H1 : (some true) = some true := rfl
    clear H
    have H := H1
    clear H1
    go_enter Try.func6, Try.ntmps6
    try go_wp2_with (first | ((with_reducible refine gate_dst (N := 1) rfl ?_); refine box_event ?hg (N := 1) ?hd (cs := #[.int .i64 a0_0, .int .i64 a0_1, .int .i64 a0_2, .int .i64 a0_3, .slice A0_4 l0_4.length c0_4, .int .i64 a0_5, .slice A0_6 l0_6.length c0_6, .int .i64 a0_7, .bool a0_8, .int .i64 a0_9, .int .i64 a0_10]) (t := 78) ?hr ?_; (case hd => rfl); (case hg => rfl); (case hr => first | (go_simp; done) | (go_simp; rfl)); intro gb1294 hg w31 hbox hb; have n0_ := zA (below_step (by repeat (first | (with_reducible first | exact HB.out | apply zC | apply zB | apply zF) | exact HB.out)) hb); have n1_ := zA (hbox); have n2_ := zA ((by rw [hg]; exact (zL (by repeat (first | (with_reducible first | exact HB.out | apply zC | apply zB | apply zF) | exact HB.out))) : w.heap.size ≤ gb1294)); have n3_ := zA ((by rw [hg]; exact (zL (by repeat (first | (with_reducible first | exact HB.out | apply zC | apply zB | apply zF) | exact HB.out))) : w.heap.size ≤ gb1294)); clear HB; have HB := n0_; have BK1294 := n1_; have GW1294 := n2_; have GE1294 := n3_; clear n0_ n1_ n2_ n3_; clear hb hbox hg; have hcz32_0 : w31.cell? ⟨gb1294, 0, none⟩ = some (.int .i64 a0_0) := (zK BK1294.out 0).trans rfl; have hcz32_1 : w31.cell? ⟨gb1294, 1, none⟩ = some (.int .i64 a0_1) := (zK BK1294.out 1).trans rfl; have hcz32_2 : w31.cell? ⟨gb1294, 2, none⟩ = some (.int .i64 a0_2) := (zK BK1294.out 2).trans rfl; have hcz32_3 : w31.cell? ⟨gb1294, 3, none⟩ = some (.int .i64 a0_3) := (zK BK1294.out 3).trans rfl; have hcz32_4 : w31.cell? ⟨gb1294, 4, none⟩ = some (.slice A0_4 l0_4.length c0_4) := (zK BK1294.out 4).trans rfl; have hcz32_5 : w31.cell? ⟨gb1294, 5, none⟩ = some (.int .i64 a0_5) := (zK BK1294.out 5).trans rfl; have hcz32_6 : w31.cell? ⟨gb1294, 6, none⟩ = some (.slice A0_6 l0_6.length c0_6) := (zK BK1294.out 6).trans rfl; have hcz32_7 : w31.cell? ⟨gb1294, 7, none⟩ = some (.int .i64 a0_7) := (zK BK1294.out 7).trans rfl; have hcz32_8 : w31.cell? ⟨gb1294, 8, none⟩ = some (.bool a0_8) := (zK BK1294.out 8).trans rfl; have hcz32_9 : w31.cell? ⟨gb1294, 9, none⟩ = some (.int .i64 a0_9) := (zK BK1294.out 9).trans rfl; have hcz32_10 : w31.cell? ⟨gb1294, 10, none⟩ = some (.int .i64 a0_10) := (zK BK1294.out 10).trans rfl; have hfz32_0 := zJ BK1294.out 0; have hfz32_1 := zJ BK1294.out 1; have hfz32_2 := zJ BK1294.out 2; have hfz32_3 := zJ BK1294.out 3; have hfz32_4 := zJ BK1294.out 4; have hfz32_5 := zJ BK1294.out 5; have hfz32_6 := zJ BK1294.out 6; have hfz32_7 := zJ BK1294.out 7; have hfz32_8 := zJ BK1294.out 8; have hfz32_9 := zJ BK1294.out 9; have hfz32_10 := zJ BK1294.out 10) | ((with_reducible refine gate_callee (f := 41) rfl ?_); refine goesL_ (some 9) rfl rfl Try.func41 (by kernel_rfl) rfl #[.agg #[.int .i64 a0_0, .int .i64 a0_1, .int .i64 a0_2, .int .i64 a0_3, .slice A0_4 l0_4.length c0_4, .int .i64 a0_5, .slice A0_6 l0_6.length c0_6, .int .i64 a0_7, .bool a0_8, .int .i64 a0_9, .int .i64 a0_10], .int .i64 1048576] rfl (by (try simp only [zU, zV, zW]); first | done | rfl | (simp only [zR, zQ]; rfl)) ?_; (with_reducible refine (laws_szDesk.calls k a0_0 a0_1 a0_2 a0_3 _ _ l0_4 a0_5 _ _ l0_6 a0_7 a0_8 a0_9 a0_10 1048576 t1295 _ ?side1 ?side2 ?side3 ?side4 A2.out).mono ?_); (case side1 => repeat (first | exact (Kd.C_below HR0_4.out HB.out) | (with_reducible refine yH ?_ _) | (with_reducible refine yF ?_ _) | (with_reducible refine yG ?_))); (case side2 => exact HC0_4.out); (case side3 => repeat (first | exact (Kd.C_below HR0_6.out HB.out) | (with_reducible refine yH ?_ _) | (with_reducible refine yF ?_ _) | (with_reducible refine yG ?_))); (case side4 => exact HC0_6.out); rintro e w33 ⟨rfl, hb⟩; refine ⟨_, rfl, ?_⟩; have n0_ := zA (blk_below (g := gb1294) (o := .cells #[.int .i64 a0_0, .int .i64 a0_1, .int .i64 a0_2, .int .i64 a0_3, .slice A0_4 l0_4.length c0_4, .int .i64 a0_5, .slice A0_6 l0_6.length c0_6, .int .i64 a0_7, .bool a0_8, .int .i64 a0_9, .int .i64 a0_10] 78 (0, 0)) (by (with_reducible repeat (first | refine zG ?_ _ | refine zH ?_ | refine zD ?_ _)); exact BK1294.out) hb); have n1_ := zA (below_step (by repeat (first | (with_reducible first | exact HB.out | apply zC | apply zB | apply zF | refine zE ?_ GE1294.out) | exact HB.out)) hb); clear BK1294; clear HB; have BK1294 := n0_; have HB := n1_; clear n0_ n1_; (try clear hb); (try clear hb2); (try clear hk); (try clear hi); have hcz34_0 : w33.cell? ⟨gb1294, 0, none⟩ = some (.int .i64 a0_0) := (zK BK1294.out 0).trans rfl; have hcz34_1 : w33.cell? ⟨gb1294, 1, none⟩ = some (.int .i64 a0_1) := (zK BK1294.out 1).trans rfl; have hcz34_2 : w33.cell? ⟨gb1294, 2, none⟩ = some (.int .i64 a0_2) := (zK BK1294.out 2).trans rfl; have hcz34_3 : w33.cell? ⟨gb1294, 3, none⟩ = some (.int .i64 a0_3) := (zK BK1294.out 3).trans rfl; have hcz34_4 : w33.cell? ⟨gb1294, 4, none⟩ = some (.slice A0_4 l0_4.length c0_4) := (zK BK1294.out 4).trans rfl; have hcz34_5 : w33.cell? ⟨gb1294, 5, none⟩ = some (.int .i64 a0_5) := (zK BK1294.out 5).trans rfl; have hcz34_6 : w33.cell? ⟨gb1294, 6, none⟩ = some (.slice A0_6 l0_6.length c0_6) := (zK BK1294.out 6).trans rfl; have hcz34_7 : w33.cell? ⟨gb1294, 7, none⟩ = some (.int .i64 a0_7) := (zK BK1294.out 7).trans rfl; have hcz34_8 : w33.cell? ⟨gb1294, 8, none⟩ = some (.bool a0_8) := (zK BK1294.out 8).trans rfl; have hcz34_9 : w33.cell? ⟨gb1294, 9, none⟩ = some (.int .i64 a0_9) := (zK BK1294.out 9).trans rfl; have hcz34_10 : w33.cell? ⟨gb1294, 10, none⟩ = some (.int .i64 a0_10) := (zK BK1294.out 10).trans rfl; have hfz34_0 := zJ BK1294.out 0; have hfz34_1 := zJ BK1294.out 1; have hfz34_2 := zJ BK1294.out 2; have hfz34_3 := zJ BK1294.out 3; have hfz34_4 := zJ BK1294.out 4; have hfz34_5 := zJ BK1294.out 5; have hfz34_6 := zJ BK1294.out 6; have hfz34_7 := zJ BK1294.out 7; have hfz34_8 := zJ BK1294.out 8; have hfz34_9 := zJ BK1294.out 9; have hfz34_10 := zJ BK1294.out 10) | ((with_reducible refine gate_callee (f := 43) rfl ?_); refine goesL_ (some 13) rfl rfl Try.func43 (by kernel_rfl) rfl #[.agg #[.int .i64 a0_0, .int .i64 a0_1, .int .i64 a0_2, .int .i64 a0_3, .slice A0_4 l0_4.length c0_4, .int .i64 a0_5, .slice A0_6 l0_6.length c0_6, .int .i64 a0_7, .bool a0_8, .int .i64 a0_9, .int .i64 a0_10]] rfl (by (try simp only [zU, zV, zW]); first | done | rfl | (simp only [zR, zQ]; rfl)) ?_; (with_reducible refine (laws_toDesk.calls k a0_0 a0_1 a0_2 a0_3 _ _ l0_4 a0_5 _ _ l0_6 a0_7 a0_8 a0_9 a0_10 t1296 t1297 t1298 t1299 t1300 t1303 t1304 t1307 t1308 t1309 t1310 _ ?side1 ?side2 ?side3 ?side4 A7.out).mono ?_); (case side1 => repeat (first | exact (Kd.C_below HR0_4.out HB.out) | (with_reducible refine yH ?_ _) | (with_reducible refine yF ?_ _) | (with_reducible refine yG ?_))); (case side2 => exact HC0_4.out); (case side3 => repeat (first | exact (Kd.C_below HR0_6.out HB.out) | (with_reducible refine yH ?_ _) | (with_reducible refine yF ?_ _) | (with_reducible refine yG ?_))); (case side4 => exact HC0_6.out); rintro e w35 ⟨v1301, v1305, rfl, ho0, ho1, hb⟩; refine ⟨_, rfl, ?_⟩; have n0_ := zA (Kd.S_lower ho0 (zL (by repeat (first | (with_reducible first | exact HB.out | apply zC | apply zB | apply zF | refine zE ?_ GE1294.out) | exact HB.out)))); have n1_ := zA (Kd.R_lower ho1 (zL (by repeat (first | (with_reducible first | exact HB.out | apply zC | apply zB | apply zF | refine zE ?_ GE1294.out) | exact HB.out)))); have n2_ := zA (blk_below (g := gb1294) (o := .cells #[.int .i64 a0_0, .int .i64 a0_1, .int .i64 a0_2, .int .i64 a0_3, .slice A0_4 l0_4.length c0_4, .int .i64 a0_5, .slice A0_6 l0_6.length c0_6, .int .i64 a0_7, .bool a0_8, .int .i64 a0_9, .int .i64 a0_10] 78 (0, 0)) (by (with_reducible repeat (first | refine zG ?_ _ | refine zH ?_ | refine zD ?_ _)); exact BK1294.out) hb); have n3_ := zA (below_step (by repeat (first | (with_reducible first | exact HB.out | apply zC | apply zB | apply zF | refine zE ?_ GE1294.out) | exact HB.out)) hb); clear BK1294; clear HB; have HO1302 := n0_; have HO1306 := n1_; have BK1294 := n2_; have HB := n3_; clear n0_ n1_ n2_ n3_; (try clear hb); (try clear hb2); (try clear hk); (try clear hi); (try clear ho0); (try clear ho1); obtain ⟨Ao36, co36, eo36⟩ := Kd.S_slice HO1302.out; subst eo36; obtain ⟨Ao37, co37, eo37⟩ := Kd.R_slice HO1306.out; subst eo37) | ((with_reducible refine gate_callee (f := 42) rfl ?_); refine goesL_ (some 14) rfl rfl Try.func42 (by kernel_rfl) rfl #[.agg #[.int .i64 t1296, .int .i64 t1297, .int .i64 t1298, .int .i64 t1299, .slice Ao36 t1300.length co36, .int .i64 t1303, .slice Ao37 t1304.length co37, .int .i64 t1307, .bool t1308, .int .i64 t1309, .int .i64 t1310]] rfl (by (try simp only [zU, zV, zW]); first | done | rfl | (simp only [zR, zQ]; rfl)) ?_; (with_reducible refine (spec_DeskOk.calls k t1296 t1297 t1298 t1299 _ _ t1300 t1303 _ _ t1304 t1307 t1308 t1309 t1310 t1311 _ ?side1 ?side2 ?side3 ?side4 A8.out).mono ?_); (case side1 => repeat (first | exact (Kd.S_reads' HO1302.out).2.2 | (with_reducible refine yH ?_ _) | (with_reducible refine yF ?_ _) | (with_reducible refine yG ?_))); (case side2 => exact (Kd.S_reads' HO1302.out).2.1); (case side3 => repeat (first | exact (yE HO1306.out).2.2 | (with_reducible refine yH ?_ _) | (with_reducible refine yF ?_ _) | (with_reducible refine yG ?_))); (case side4 => exact (yE HO1306.out).2.1); rintro e w38 ⟨rfl, hb⟩; refine ⟨_, rfl, ?_⟩; have n0_ := zA (Kd.S_below (by (with_reducible repeat (first | apply zY | apply zZ | apply yA)); exact HO1302.out) hb); have n1_ := zA (Kd.R_below (by (with_reducible repeat (first | apply zN | apply zM | apply zO)); exact HO1306.out) hb); have n2_ := zA (blk_below (g := gb1294) (o := .cells #[.int .i64 a0_0, .int .i64 a0_1, .int .i64 a0_2, .int .i64 a0_3, .slice A0_4 l0_4.length c0_4, .int .i64 a0_5, .slice A0_6 l0_6.length c0_6, .int .i64 a0_7, .bool a0_8, .int .i64 a0_9, .int .i64 a0_10] 78 (0, 0)) (by (with_reducible repeat (first | refine zG ?_ _ | refine zH ?_ | refine zD ?_ _)); exact BK1294.out) hb); have n3_ := zA (below_step (by repeat (first | (with_reducible first | exact HB.out | apply zC | apply zB | apply zF | refine zE ?_ GE1294.out) | exact HB.out)) hb); clear HO1302; clear HO1306; clear BK1294; clear HB; have HO1302 := n0_; have HO1306 := n1_; have BK1294 := n2_; have HB := n3_; clear n0_ n1_ n2_ n3_; (try clear hb); (try clear hb2); (try clear hk); (try clear hi); have hcz39_0 : w38.cell? ⟨gb1294, 0, none⟩ = some (.int .i64 a0_0) := (zK BK1294.out 0).trans rfl; have hcz39_1 : w38.cell? ⟨gb1294, 1, none⟩ = some (.int .i64 a0_1) := (zK BK1294.out 1).trans rfl; have hcz39_2 : w38.cell? ⟨gb1294, 2, none⟩ = some (.int .i64 a0_2) := (zK BK1294.out 2).trans rfl; have hcz39_3 : w38.cell? ⟨gb1294, 3, none⟩ = some (.int .i64 a0_3) := (zK BK1294.out 3).trans rfl; have hcz39_4 : w38.cell? ⟨gb1294, 4, none⟩ = some (.slice A0_4 l0_4.length c0_4) := (zK BK1294.out 4).trans rfl; have hcz39_5 : w38.cell? ⟨gb1294, 5, none⟩ = some (.int .i64 a0_5) := (zK BK1294.out 5).trans rfl; have hcz39_6 : w38.cell? ⟨gb1294, 6, none⟩ = some (.slice A0_6 l0_6.length c0_6) := (zK BK1294.out 6).trans rfl; have hcz39_7 : w38.cell? ⟨gb1294, 7, none⟩ = some (.int .i64 a0_7) := (zK BK1294.out 7).trans rfl; have hcz39_8 : w38.cell? ⟨gb1294, 8, none⟩ = some (.bool a0_8) := (zK BK1294.out 8).trans rfl; have hcz39_9 : w38.cell? ⟨gb1294, 9, none⟩ = some (.int .i64 a0_9) := (zK BK1294.out 9).trans rfl; have hcz39_10 : w38.cell? ⟨gb1294, 10, none⟩ = some (.int .i64 a0_10) := (zK BK1294.out 10).trans rfl; have hfz39_0 := zJ BK1294.out 0; have hfz39_1 := zJ BK1294.out 1; have hfz39_2 := zJ BK1294.out 2; have hfz39_3 := zJ BK1294.out 3; have hfz39_4 := zJ BK1294.out 4; have hfz39_5 := zJ BK1294.out 5; have hfz39_6 := zJ BK1294.out 6; have hfz39_7 := zJ BK1294.out 7; have hfz39_8 := zJ BK1294.out 8; have hfz39_9 := zJ BK1294.out 9; have hfz39_10 := zJ BK1294.out 10) | ((with_reducible refine gate_callee (f := 43) rfl ?_); refine goesL_ (some 16) rfl rfl Try.func43 (by kernel_rfl) rfl #[.agg #[.int .i64 a0_0, .int .i64 a0_1, .int .i64 a0_2, .int .i64 a0_3, .slice A0_4 l0_4.length c0_4, .int .i64 a0_5, .slice A0_6 l0_6.length c0_6, .int .i64 a0_7, .bool a0_8, .int .i64 a0_9, .int .i64 a0_10]] rfl (by (try simp only [zU, zV, zW]); first | done | rfl | (simp only [zR, zQ]; rfl)) ?_; (with_reducible refine (laws_toDesk.calls k a0_0 a0_1 a0_2 a0_3 _ _ l0_4 a0_5 _ _ l0_6 a0_7 a0_8 a0_9 a0_10 t1312 t1313 t1314 t1315 t1316 t1319 t1320 t1323 t1324 t1325 t1326 _ ?side1 ?side2 ?side3 ?side4 A9.out).mono ?_); (case side1 => repeat (first | exact (Kd.C_below HR0_4.out HB.out) | (with_reducible refine yH ?_ _) | (with_reducible refine yF ?_ _) | (with_reducible refine yG ?_))); (case side2 => exact HC0_4.out); (case side3 => repeat (first | exact (Kd.C_below HR0_6.out HB.out) | (with_reducible refine yH ?_ _) | (with_reducible refine yF ?_ _) | (with_reducible refine yG ?_))); (case side4 => exact HC0_6.out); rintro e w40 ⟨v1317, v1321, rfl, ho0, ho1, hb⟩; refine ⟨_, rfl, ?_⟩; have n0_ := zA (Kd.S_elder' (by (with_reducible repeat (first | apply zY | apply zZ | apply yA)); exact HO1302.out) (Kd.S_base ho0) hb); have n1_ := zA (Kd.R_elder' (by (with_reducible repeat (first | apply zN | apply zM | apply zO)); exact HO1306.out) (Kd.R_base ho1) hb); have n2_ := zA (Kd.S_lower (Kd.S_new' ho0 (Kd.S_lt (by (with_reducible repeat (first | apply zY | apply zZ | apply yA)); exact HO1302.out))) (zL (by repeat (first | (with_reducible first | exact HB.out | apply zC | apply zB | apply zF | refine zE ?_ GE1294.out) | exact HB.out)))); have n3_ := zA (Kd.R_lower (Kd.R_new' ho1 (Kd.R_lt (by (with_reducible repeat (first | apply zN | apply zM | apply zO)); exact HO1306.out))) (zL (by repeat (first | (with_reducible first | exact HB.out | apply zC | apply zB | apply zF | refine zE ?_ GE1294.out) | exact HB.out)))); have n4_ := zA (blk_below (g := gb1294) (o := .cells #[.int .i64 a0_0, .int .i64 a0_1, .int .i64 a0_2, .int .i64 a0_3, .slice A0_4 l0_4.length c0_4, .int .i64 a0_5, .slice A0_6 l0_6.length c0_6, .int .i64 a0_7, .bool a0_8, .int .i64 a0_9, .int .i64 a0_10] 78 (0, 0)) (by (with_reducible repeat (first | refine zG ?_ _ | refine zH ?_ | refine zD ?_ _)); exact BK1294.out) hb); have n5_ := zA (below_step (by repeat (first | (with_reducible first | exact HB.out | apply zC | apply zB | apply zF | refine zE ?_ GE1294.out) | exact HB.out)) hb); clear HO1302; clear HO1306; clear BK1294; clear HB; have HO1302 := n0_; have HO1306 := n1_; have HO1318 := n2_; have HO1322 := n3_; have BK1294 := n4_; have HB := n5_; clear n0_ n1_ n2_ n3_ n4_ n5_; (try clear hb); (try clear hb2); (try clear hk); (try clear hi); (try clear ho0); (try clear ho1)) | ((with_reducible refine gate_dst (N := 5) rfl ?_); refine box_event ?hg (N := 5) ?hd (cs := #[.int .i64 0, .int .i64 0, .int .i64 0, .int .i64 0, .slice none 0 0, .int .i64 0, .slice none 0 0, .int .i64 0, .bool false, .int .i64 0, .int .i64 0]) (t := 86) ?hr ?_; (case hd => rfl); (case hg => rfl); (case hr => first | (go_simp; done) | (go_simp; rfl)); intro gb1327 hg w41 hbox hb; have n0_ := zA (Kd.S_below (by (with_reducible repeat (first | apply zY | apply zZ | apply yA)); exact HO1302.out) hb); have n1_ := zA (Kd.R_below (by (with_reducible repeat (first | apply zN | apply zM | apply zO)); exact HO1306.out) hb); have n2_ := zA (Kd.S_below (by (with_reducible repeat (first | apply zY | apply zZ | apply yA)); exact HO1318.out) hb); have n3_ := zA (Kd.R_below (by (with_reducible repeat (first | apply zN | apply zM | apply zO)); exact HO1322.out) hb); have n4_ := zA (blk_below (g := gb1294) (o := .cells #[.int .i64 a0_0, .int .i64 a0_1, .int .i64 a0_2, .int .i64 a0_3, .slice A0_4 l0_4.length c0_4, .int .i64 a0_5, .slice A0_6 l0_6.length c0_6, .int .i64 a0_7, .bool a0_8, .int .i64 a0_9, .int .i64 a0_10] 78 (0, 0)) (by (with_reducible repeat (first | refine zG ?_ _ | refine zH ?_ | refine zD ?_ _)); exact BK1294.out) hb); have n5_ := zA (below_step (by repeat (first | (with_reducible first | exact HB.out | apply zC | apply zB | apply zF | refine zE ?_ GE1294.out) | exact HB.out)) hb); have n6_ := zA (hbox); have n7_ := zA ((by rw [hg]; exact (zL (by repeat (first | (with_reducible first | exact HB.out | apply zC | apply zB | apply zF | refine zE ?_ GE1294.out) | exact HB.out))) : w.heap.size ≤ gb1327)); have n8_ := zA ((by rw [hg]; exact (zL (by repeat (first | (with_reducible first | exact HB.out | apply zC | apply zB | apply zF | refine zE ?_ GE1294.out) | exact HB.out))) : w.heap.size ≤ gb1327)); have n9_ := zA ((by rw [hg]; exact Nat.ne_of_lt (blk_lt (g := gb1294) (o := .cells #[.int .i64 a0_0, .int .i64 a0_1, .int .i64 a0_2, .int .i64 a0_3, .slice A0_4 l0_4.length c0_4, .int .i64 a0_5, .slice A0_6 l0_6.length c0_6, .int .i64 a0_7, .bool a0_8, .int .i64 a0_9, .int .i64 a0_10] 78 (0, 0)) (by (with_reducible repeat (first | refine zG ?_ _ | refine zH ?_ | refine zD ?_ _)); exact BK1294.out)) : gb1294 ≠ gb1327)); have n10_ := zA ((by rw [hg]; exact Nat.ne_of_gt (blk_lt (g := gb1294) (o := .cells #[.int .i64 a0_0, .int .i64 a0_1, .int .i64 a0_2, .int .i64 a0_3, .slice A0_4 l0_4.length c0_4, .int .i64 a0_5, .slice A0_6 l0_6.length c0_6, .int .i64 a0_7, .bool a0_8, .int .i64 a0_9, .int .i64 a0_10] 78 (0, 0)) (by (with_reducible repeat (first | refine zG ?_ _ | refine zH ?_ | refine zD ?_ _)); exact BK1294.out)) : gb1327 ≠ gb1294)); clear HO1302; clear HO1306; clear HO1318; clear HO1322; clear BK1294; clear HB; have HO1302 := n0_; have HO1306 := n1_; have HO1318 := n2_; have HO1322 := n3_; have BK1294 := n4_; have HB := n5_; have BK1327 := n6_; have GW1327 := n7_; have GE1327 := n8_; have NB1294_1327 := n9_; have NB1327_1294 := n10_; clear n0_ n1_ n2_ n3_ n4_ n5_ n6_ n7_ n8_ n9_ n10_; clear hb hbox hg; have hnb42 := NB1327_1294.out; have hnc42 := NB1294_1327.out; have hcz43_0 : w41.cell? ⟨gb1327, 0, none⟩ = some (.int .i64 0) := (zK BK1327.out 0).trans rfl; have hcz43_1 : w41.cell? ⟨gb1327, 1, none⟩ = some (.int .i64 0) := (zK BK1327.out 1).trans rfl; have hcz43_2 : w41.cell? ⟨gb1327, 2, none⟩ = some (.int .i64 0) := (zK BK1327.out 2).trans rfl; have hcz43_3 : w41.cell? ⟨gb1327, 3, none⟩ = some (.int .i64 0) := (zK BK1327.out 3).trans rfl; have hcz43_4 : w41.cell? ⟨gb1327, 4, none⟩ = some (.slice none 0 0) := (zK BK1327.out 4).trans rfl; have hcz43_5 : w41.cell? ⟨gb1327, 5, none⟩ = some (.int .i64 0) := (zK BK1327.out 5).trans rfl; have hcz43_6 : w41.cell? ⟨gb1327, 6, none⟩ = some (.slice none 0 0) := (zK BK1327.out 6).trans rfl; have hcz43_7 : w41.cell? ⟨gb1327, 7, none⟩ = some (.int .i64 0) := (zK BK1327.out 7).trans rfl; have hcz43_8 : w41.cell? ⟨gb1327, 8, none⟩ = some (.bool false) := (zK BK1327.out 8).trans rfl; have hcz43_9 : w41.cell? ⟨gb1327, 9, none⟩ = some (.int .i64 0) := (zK BK1327.out 9).trans rfl; have hcz43_10 : w41.cell? ⟨gb1327, 10, none⟩ = some (.int .i64 0) := (zK BK1327.out 10).trans rfl; have hfz43_0 := zJ BK1327.out 0; have hfz43_1 := zJ BK1327.out 1; have hfz43_2 := zJ BK1327.out 2; have hfz43_3 := zJ BK1327.out 3; have hfz43_4 := zJ BK1327.out 4; have hfz43_5 := zJ BK1327.out 5; have hfz43_6 := zJ BK1327.out 6; have hfz43_7 := zJ BK1327.out 7; have hfz43_8 := zJ BK1327.out 8; have hfz43_9 := zJ BK1327.out 9; have hfz43_10 := zJ BK1327.out 10; obtain ⟨Ao44, co44, eo44⟩ := Kd.S_slice HO1318.out; subst eo44; obtain ⟨Ao45, co45, eo45⟩ := Kd.R_slice HO1322.out; subst eo45) | ((with_reducible refine gate_callee (f := 44) rfl ?_); refine goesL_ (some 18) rfl rfl Try.func44 (by kernel_rfl) rfl #[.agg #[.int .i64 t1312, .int .i64 t1313, .int .i64 t1314, .int .i64 t1315, .slice Ao44 t1316.length co44, .int .i64 t1319, .slice Ao45 t1320.length co45, .int .i64 t1323, .bool t1324, .int .i64 t1325, .int .i64 t1326]] rfl (by (try simp only [zU, zV, zW]); first | done | rfl | (simp only [zR, zQ]; rfl)) ?_; (with_reducible refine (impl_DeskOk.calls k t1312 t1313 t1314 t1315 _ _ t1316 t1319 _ _ t1320 t1323 t1324 t1325 t1326 t1328 _ ?side1 ?side2 ?side3 ?side4 A10.out).mono ?_); (case side1 => refine (Kd.S_reads' (e := 36) (base := w.heap.size) (ok := fun k_ => (True ∧ some k_ ≠ (.slice Ao36 t1300.length co36 : Value).ownBlock)) (n := t1316.length) (c := co44) ?_).2.2; exact (by (with_reducible repeat (first | apply zY | apply zZ | apply yA)); exact (yB (yC (p := ⟨gb1327, 10, none⟩) (yC (p := ⟨gb1327, 9, none⟩) (yC (p := ⟨gb1327, 8, none⟩) (yC (p := ⟨gb1327, 7, none⟩) (yC (p := ⟨gb1327, 6, none⟩) (yC (p := ⟨gb1327, 5, none⟩) (yC (p := ⟨gb1327, 4, none⟩) (yC (p := ⟨gb1327, 3, none⟩) (yC (p := ⟨gb1327, 2, none⟩) (yC (p := ⟨gb1327, 1, none⟩) (yC (p := ⟨gb1327, 0, none⟩) (Kd.S_types HO1318.out BK1327.out (by decide)) (fun _ hk => hk.2) (.int .i64 t1312)) (fun _ hk => hk.2) (.int .i64 t1313)) (fun _ hk => hk.2) (.int .i64 t1314)) (fun _ hk => hk.2) (.int .i64 t1315)) (fun _ hk => hk.2) (.slice Ao44 t1316.length co44)) (fun _ hk => hk.2) (.int .i64 t1319)) (fun _ hk => hk.2) (.slice Ao45 t1320.length co45)) (fun _ hk => hk.2) (.int .i64 t1323)) (fun _ hk => hk.2) (.bool t1324)) (fun _ hk => hk.2) (.int .i64 t1325)) (fun _ hk => hk.2) (.int .i64 t1326)) (fun _ h_ => h_.1)))); (case side2 => exact (Kd.S_reads' HO1318.out).2.1); (case side3 => refine (yE (e := 5) (base := w.heap.size) (ok := fun k_ => (True ∧ some k_ ≠ (.slice Ao37 t1304.length co37 : Value).ownBlock)) (n := t1320.length) (c := co45) ?_).2.2; exact (by (with_reducible repeat (first | apply zN | apply zM | apply zO)); exact (zP (Kd.R_far (p := ⟨gb1327, 10, none⟩) (Kd.R_far (p := ⟨gb1327, 9, none⟩) (Kd.R_far (p := ⟨gb1327, 8, none⟩) (Kd.R_far (p := ⟨gb1327, 7, none⟩) (Kd.R_far (p := ⟨gb1327, 6, none⟩) (Kd.R_far (p := ⟨gb1327, 5, none⟩) (Kd.R_far (p := ⟨gb1327, 4, none⟩) (Kd.R_far (p := ⟨gb1327, 3, none⟩) (Kd.R_far (p := ⟨gb1327, 2, none⟩) (Kd.R_far (p := ⟨gb1327, 1, none⟩) (Kd.R_far (p := ⟨gb1327, 0, none⟩) (zX HO1322.out BK1327.out (by decide)) (fun _ hk => hk.2) (.int .i64 t1312)) (fun _ hk => hk.2) (.int .i64 t1313)) (fun _ hk => hk.2) (.int .i64 t1314)) (fun _ hk => hk.2) (.int .i64 t1315)) (fun _ hk => hk.2) (.slice Ao44 t1316.length co44)) (fun _ hk => hk.2) (.int .i64 t1319)) (fun _ hk => hk.2) (.slice Ao45 t1320.length co45)) (fun _ hk => hk.2) (.int .i64 t1323)) (fun _ hk => hk.2) (.bool t1324)) (fun _ hk => hk.2) (.int .i64 t1325)) (fun _ hk => hk.2) (.int .i64 t1326)) (fun _ h_ => h_.1)))); (case side4 => exact (yE HO1322.out).2.1); rintro e w46 ⟨rfl, hb⟩; refine ⟨_, rfl, ?_⟩; have n0_ := zA (Kd.S_below (by (with_reducible repeat (first | apply zY | apply zZ | apply yA)); exact (yB (yC (p := ⟨gb1327, 10, none⟩) (yC (p := ⟨gb1327, 9, none⟩) (yC (p := ⟨gb1327, 8, none⟩) (yC (p := ⟨gb1327, 7, none⟩) (yC (p := ⟨gb1327, 6, none⟩) (yC (p := ⟨gb1327, 5, none⟩) (yC (p := ⟨gb1327, 4, none⟩) (yC (p := ⟨gb1327, 3, none⟩) (yC (p := ⟨gb1327, 2, none⟩) (yC (p := ⟨gb1327, 1, none⟩) (yC (p := ⟨gb1327, 0, none⟩) (Kd.S_types HO1302.out BK1327.out (by decide)) (fun _ hk => hk.2) (.int .i64 t1312)) (fun _ hk => hk.2) (.int .i64 t1313)) (fun _ hk => hk.2) (.int .i64 t1314)) (fun _ hk => hk.2) (.int .i64 t1315)) (fun _ hk => hk.2) (.slice Ao44 t1316.length co44)) (fun _ hk => hk.2) (.int .i64 t1319)) (fun _ hk => hk.2) (.slice Ao45 t1320.length co45)) (fun _ hk => hk.2) (.int .i64 t1323)) (fun _ hk => hk.2) (.bool t1324)) (fun _ hk => hk.2) (.int .i64 t1325)) (fun _ hk => hk.2) (.int .i64 t1326)) (fun _ h_ => h_.1))) hb); have n1_ := zA (Kd.R_below (by (with_reducible repeat (first | apply zN | apply zM | apply zO)); exact (zP (Kd.R_far (p := ⟨gb1327, 10, none⟩) (Kd.R_far (p := ⟨gb1327, 9, none⟩) (Kd.R_far (p := ⟨gb1327, 8, none⟩) (Kd.R_far (p := ⟨gb1327, 7, none⟩) (Kd.R_far (p := ⟨gb1327, 6, none⟩) (Kd.R_far (p := ⟨gb1327, 5, none⟩) (Kd.R_far (p := ⟨gb1327, 4, none⟩) (Kd.R_far (p := ⟨gb1327, 3, none⟩) (Kd.R_far (p := ⟨gb1327, 2, none⟩) (Kd.R_far (p := ⟨gb1327, 1, none⟩) (Kd.R_far (p := ⟨gb1327, 0, none⟩) (zX HO1306.out BK1327.out (by decide)) (fun _ hk => hk.2) (.int .i64 t1312)) (fun _ hk => hk.2) (.int .i64 t1313)) (fun _ hk => hk.2) (.int .i64 t1314)) (fun _ hk => hk.2) (.int .i64 t1315)) (fun _ hk => hk.2) (.slice Ao44 t1316.length co44)) (fun _ hk => hk.2) (.int .i64 t1319)) (fun _ hk => hk.2) (.slice Ao45 t1320.length co45)) (fun _ hk => hk.2) (.int .i64 t1323)) (fun _ hk => hk.2) (.bool t1324)) (fun _ hk => hk.2) (.int .i64 t1325)) (fun _ hk => hk.2) (.int .i64 t1326)) (fun _ h_ => h_.1))) hb); have n2_ := zA (Kd.S_below (by (with_reducible repeat (first | apply zY | apply zZ | apply yA)); exact (yB (yC (p := ⟨gb1327, 10, none⟩) (yC (p := ⟨gb1327, 9, none⟩) (yC (p := ⟨gb1327, 8, none⟩) (yC (p := ⟨gb1327, 7, none⟩) (yC (p := ⟨gb1327, 6, none⟩) (yC (p := ⟨gb1327, 5, none⟩) (yC (p := ⟨gb1327, 4, none⟩) (yC (p := ⟨gb1327, 3, none⟩) (yC (p := ⟨gb1327, 2, none⟩) (yC (p := ⟨gb1327, 1, none⟩) (yC (p := ⟨gb1327, 0, none⟩) (Kd.S_types HO1318.out BK1327.out (by decide)) (fun _ hk => hk.2) (.int .i64 t1312)) (fun _ hk => hk.2) (.int .i64 t1313)) (fun _ hk => hk.2) (.int .i64 t1314)) (fun _ hk => hk.2) (.int .i64 t1315)) (fun _ hk => hk.2) (.slice Ao44 t1316.length co44)) (fun _ hk => hk.2) (.int .i64 t1319)) (fun _ hk => hk.2) (.slice Ao45 t1320.length co45)) (fun _ hk => hk.2) (.int .i64 t1323)) (fun _ hk => hk.2) (.bool t1324)) (fun _ hk => hk.2) (.int .i64 t1325)) (fun _ hk => hk.2) (.int .i64 t1326)) (fun _ h_ => h_.1))) hb); have n3_ := zA (Kd.R_below (by (with_reducible repeat (first | apply zN | apply zM | apply zO)); exact (zP (Kd.R_far (p := ⟨gb1327, 10, none⟩) (Kd.R_far (p := ⟨gb1327, 9, none⟩) (Kd.R_far (p := ⟨gb1327, 8, none⟩) (Kd.R_far (p := ⟨gb1327, 7, none⟩) (Kd.R_far (p := ⟨gb1327, 6, none⟩) (Kd.R_far (p := ⟨gb1327, 5, none⟩) (Kd.R_far (p := ⟨gb1327, 4, none⟩) (Kd.R_far (p := ⟨gb1327, 3, none⟩) (Kd.R_far (p := ⟨gb1327, 2, none⟩) (Kd.R_far (p := ⟨gb1327, 1, none⟩) (Kd.R_far (p := ⟨gb1327, 0, none⟩) (zX HO1322.out BK1327.out (by decide)) (fun _ hk => hk.2) (.int .i64 t1312)) (fun _ hk => hk.2) (.int .i64 t1313)) (fun _ hk => hk.2) (.int .i64 t1314)) (fun _ hk => hk.2) (.int .i64 t1315)) (fun _ hk => hk.2) (.slice Ao44 t1316.length co44)) (fun _ hk => hk.2) (.int .i64 t1319)) (fun _ hk => hk.2) (.slice Ao45 t1320.length co45)) (fun _ hk => hk.2) (.int .i64 t1323)) (fun _ hk => hk.2) (.bool t1324)) (fun _ hk => hk.2) (.int .i64 t1325)) (fun _ hk => hk.2) (.int .i64 t1326)) (fun _ h_ => h_.1))) hb); have n4_ := zA (blk_below (g := gb1294) (o := .cells #[.int .i64 a0_0, .int .i64 a0_1, .int .i64 a0_2, .int .i64 a0_3, .slice A0_4 l0_4.length c0_4, .int .i64 a0_5, .slice A0_6 l0_6.length c0_6, .int .i64 a0_7, .bool a0_8, .int .i64 a0_9, .int .i64 a0_10] 78 (0, 0)) (by (with_reducible repeat (first | refine zG ?_ _ | refine zH ?_ | refine zD ?_ _)); refine blk_far ?_ NB1294_1327.out _; (with_reducible repeat (first | refine zG ?_ _ | refine zH ?_ | refine zD ?_ _)); refine blk_far ?_ NB1294_1327.out _; (with_reducible repeat (first | refine zG ?_ _ | refine zH ?_ | refine zD ?_ _)); refine blk_far ?_ NB1294_1327.out _; (with_reducible repeat (first | refine zG ?_ _ | refine zH ?_ | refine zD ?_ _)); refine blk_far ?_ NB1294_1327.out _; (with_reducible repeat (first | refine zG ?_ _ | refine zH ?_ | refine zD ?_ _)); refine blk_far ?_ NB1294_1327.out _; (with_reducible repeat (first | refine zG ?_ _ | refine zH ?_ | refine zD ?_ _)); refine blk_far ?_ NB1294_1327.out _; (with_reducible repeat (first | refine zG ?_ _ | refine zH ?_ | refine zD ?_ _)); refine blk_far ?_ NB1294_1327.out _; (with_reducible repeat (first | refine zG ?_ _ | refine zH ?_ | refine zD ?_ _)); refine blk_far ?_ NB1294_1327.out _; (with_reducible repeat (first | refine zG ?_ _ | refine zH ?_ | refine zD ?_ _)); refine blk_far ?_ NB1294_1327.out _; (with_reducible repeat (first | refine zG ?_ _ | refine zH ?_ | refine zD ?_ _)); refine blk_far ?_ NB1294_1327.out _; (with_reducible repeat (first | refine zG ?_ _ | refine zH ?_ | refine zD ?_ _)); refine blk_far ?_ NB1294_1327.out _; (with_reducible repeat (first | refine zG ?_ _ | refine zH ?_ | refine zD ?_ _)); exact BK1294.out) hb); have n5_ := zA (blk_below (g := gb1327) (o := .cells #[.int .i64 t1312, .int .i64 t1313, .int .i64 t1314, .int .i64 t1315, .slice Ao44 t1316.length co44, .int .i64 t1319, .slice Ao45 t1320.length co45, .int .i64 t1323, .bool t1324, .int .i64 t1325, .int .i64 t1326] 86 (0, 0)) (by (with_reducible repeat (first | refine zG ?_ _ | refine zH ?_ | refine zD ?_ _)); refine blk_put (cs := #[.int .i64 t1312, .int .i64 t1313, .int .i64 t1314, .int .i64 t1315, .slice Ao44 t1316.length co44, .int .i64 t1319, .slice Ao45 t1320.length co45, .int .i64 t1323, .bool t1324, .int .i64 t1325, .int .i64 0]) ?_ 10 _ rfl; (with_reducible repeat (first | refine zG ?_ _ | refine zH ?_ | refine zD ?_ _)); refine blk_put (cs := #[.int .i64 t1312, .int .i64 t1313, .int .i64 t1314, .int .i64 t1315, .slice Ao44 t1316.length co44, .int .i64 t1319, .slice Ao45 t1320.length co45, .int .i64 t1323, .bool t1324, .int .i64 0, .int .i64 0]) ?_ 9 _ rfl; (with_reducible repeat (first | refine zG ?_ _ | refine zH ?_ | refine zD ?_ _)); refine blk_put (cs := #[.int .i64 t1312, .int .i64 t1313, .int .i64 t1314, .int .i64 t1315, .slice Ao44 t1316.length co44, .int .i64 t1319, .slice Ao45 t1320.length co45, .int .i64 t1323, .bool false, .int .i64 0, .int .i64 0]) ?_ 8 _ rfl; (with_reducible repeat (first | refine zG ?_ _ | refine zH ?_ | refine zD ?_ _)); refine blk_put (cs := #[.int .i64 t1312, .int .i64 t1313, .int .i64 t1314, .int .i64 t1315, .slice Ao44 t1316.length co44, .int .i64 t1319, .slice Ao45 t1320.length co45, .int .i64 0, .bool false, .int .i64 0, .int .i64 0]) ?_ 7 _ rfl; (with_reducible repeat (first | refine zG ?_ _ | refine zH ?_ | refine zD ?_ _)); refine blk_put (cs := #[.int .i64 t1312, .int .i64 t1313, .int .i64 t1314, .int .i64 t1315, .slice Ao44 t1316.length co44, .int .i64 t1319, .slice none 0 0, .int .i64 0, .bool false, .int .i64 0, .int .i64 0]) ?_ 6 _ rfl; (with_reducible repeat (first | refine zG ?_ _ | refine zH ?_ | refine zD ?_ _)); refine blk_put (cs := #[.int .i64 t1312, .int .i64 t1313, .int .i64 t1314, .int .i64 t1315, .slice Ao44 t1316.length co44, .int .i64 0, .slice none 0 0, .int .i64 0, .bool false, .int .i64 0, .int .i64 0]) ?_ 5 _ rfl; (with_reducible repeat (first | refine zG ?_ _ | refine zH ?_ | refine zD ?_ _)); refine blk_put (cs := #[.int .i64 t1312, .int .i64 t1313, .int .i64 t1314, .int .i64 t1315, .slice none 0 0, .int .i64 0, .slice none 0 0, .int .i64 0, .bool false, .int .i64 0, .int .i64 0]) ?_ 4 _ rfl; (with_reducible repeat (first | refine zG ?_ _ | refine zH ?_ | refine zD ?_ _)); refine blk_put (cs := #[.int .i64 t1312, .int .i64 t1313, .int .i64 t1314, .int .i64 0, .slice none 0 0, .int .i64 0, .slice none 0 0, .int .i64 0, .bool false, .int .i64 0, .int .i64 0]) ?_ 3 _ rfl; (with_reducible repeat (first | refine zG ?_ _ | refine zH ?_ | refine zD ?_ _)); refine blk_put (cs := #[.int .i64 t1312, .int .i64 t1313, .int .i64 0, .int .i64 0, .slice none 0 0, .int .i64 0, .slice none 0 0, .int .i64 0, .bool false, .int .i64 0, .int .i64 0]) ?_ 2 _ rfl; (with_reducible repeat (first | refine zG ?_ _ | refine zH ?_ | refine zD ?_ _)); refine blk_put (cs := #[.int .i64 t1312, .int .i64 0, .int .i64 0, .int .i64 0, .slice none 0 0, .int .i64 0, .slice none 0 0, .int .i64 0, .bool false, .int .i64 0, .int .i64 0]) ?_ 1 _ rfl; (with_reducible repeat (first | refine zG ?_ _ | refine zH ?_ | refine zD ?_ _)); refine blk_put (cs := #[.int .i64 0, .int .i64 0, .int .i64 0, .int .i64 0, .slice none 0 0, .int .i64 0, .slice none 0 0, .int .i64 0, .bool false, .int .i64 0, .int .i64 0]) ?_ 0 _ rfl; (with_reducible repeat (first | refine zG ?_ _ | refine zH ?_ | refine zD ?_ _)); exact BK1327.out) hb); have n6_ := zA (below_step (by repeat (first | (with_reducible first | exact HB.out | apply zC | apply zB | apply zF | refine zE ?_ GE1294.out | refine zE ?_ GE1327.out) | exact HB.out)) hb); clear HO1302; clear HO1306; clear HO1318; clear HO1322; clear BK1294; clear BK1327; clear HB; have HO1302 := n0_; have HO1306 := n1_; have HO1318 := n2_; have HO1322 := n3_; have BK1294 := n4_; have BK1327 := n5_; have HB := n6_; clear n0_ n1_ n2_ n3_ n4_ n5_ n6_; (try clear hb); (try clear hb2); (try clear hk); (try clear hi)))
    have n0_ := zA (yA HO1302.out)
    have n1_ := zA (zO HO1306.out)
    have n2_ := zA (yA HO1318.out)
    have n3_ := zA (zO HO1322.out)
    have n4_ := zA (zH BK1294.out)
    have n5_ := zA (zH BK1327.out)
    have n6_ := zA (zF HB.out)
    clear HO1302
    clear HO1306
    clear HO1318
    clear HO1322
    clear BK1294
    clear BK1327
    clear HB
    have HO1302 := n0_
    have HO1306 := n1_
    have HO1318 := n2_
    have HO1322 := n3_
    have BK1294 := n4_
    have BK1327 := n5_
    have HB := n6_
    clear n0_ n1_ n2_ n3_ n4_ n5_ n6_
    refine start_ (n := 5) (S := fun w' => w'.cell? ⟨gb1327, 0, none⟩ = some (.int .i64 t1312) ∧ w'.cell? ⟨gb1327, 1, none⟩ = some (.int .i64 t1313) ∧ w'.cell? ⟨gb1327, 2, none⟩ = some (.int .i64 t1314) ∧ w'.cell? ⟨gb1327, 3, none⟩ = some (.int .i64 t1315) ∧ w'.cell? ⟨gb1327, 4, none⟩ = some (.slice Ao44 t1316.length co44) ∧ w'.cell? ⟨gb1327, 5, none⟩ = some (.int .i64 t1319) ∧ w'.cell? ⟨gb1327, 6, none⟩ = some (.slice Ao45 t1320.length co45) ∧ w'.cell? ⟨gb1327, 7, none⟩ = some (.int .i64 t1323) ∧ w'.cell? ⟨gb1327, 8, none⟩ = some (.bool t1324) ∧ w'.cell? ⟨gb1327, 9, none⟩ = some (.int .i64 t1325) ∧ w'.cell? ⟨gb1327, 10, none⟩ = some (.int .i64 t1326) ∧ w'.cell? ⟨gb1294, 0, none⟩ = some (.int .i64 a0_0) ∧ w'.cell? ⟨gb1294, 1, none⟩ = some (.int .i64 a0_1) ∧ w'.cell? ⟨gb1294, 2, none⟩ = some (.int .i64 a0_2) ∧ w'.cell? ⟨gb1294, 3, none⟩ = some (.int .i64 a0_3) ∧ w'.cell? ⟨gb1294, 4, none⟩ = some (.slice A0_4 l0_4.length c0_4) ∧ w'.cell? ⟨gb1294, 5, none⟩ = some (.int .i64 a0_5) ∧ w'.cell? ⟨gb1294, 6, none⟩ = some (.slice A0_6 l0_6.length c0_6) ∧ w'.cell? ⟨gb1294, 7, none⟩ = some (.int .i64 a0_7) ∧ w'.cell? ⟨gb1294, 8, none⟩ = some (.bool a0_8) ∧ w'.cell? ⟨gb1294, 9, none⟩ = some (.int .i64 a0_9) ∧ w'.cell? ⟨gb1294, 10, none⟩ = some (.int .i64 a0_10)) (ds := []) #[false, false, false, false, false] (by kernel_rfl) rfl rfl ⟨(zK BK1327.out 0).trans rfl, (zK BK1327.out 1).trans rfl, (zK BK1327.out 2).trans rfl, (zK BK1327.out 3).trans rfl, (zK BK1327.out 4).trans rfl, (zK BK1327.out 5).trans rfl, (zK BK1327.out 6).trans rfl, (zK BK1327.out 7).trans rfl, (zK BK1327.out 8).trans rfl, (zK BK1327.out 9).trans rfl, (zK BK1327.out 10).trans rfl, (zK BK1294.out 0).trans rfl, (zK BK1294.out 1).trans rfl, (zK BK1294.out 2).trans rfl, (zK BK1294.out 3).trans rfl, (zK BK1294.out 4).trans rfl, (zK BK1294.out 5).trans rfl, (zK BK1294.out 6).trans rfl, (zK BK1294.out 7).trans rfl, (zK BK1294.out 8).trans rfl, (zK BK1294.out 9).trans rfl, (zK BK1294.out 10).trans rfl⟩ (fun hHeld => ?_)
    generalize w46.drew = w47 at HO1302 HO1306 HO1318 HO1322 BK1294 BK1327 HB hHeld ⊢
    refine take_ (i := 0) (N := some 22) (v := ?_) (a' := ?_) #[true, false, false, false, false] rfl rfl (by kernel_rfl) (fun _ _ _ h => h) (Or.inl ⟨by rfl, ?_⟩) hHeld ?_ ?_
    rotate_left
    ·rintro w' ⟨s0, s1, s2, s3, s4, s5, s6, s7, s8, s9, s10, s11, s12, s13, s14, s15, s16, s17, s18, s19, s20, s21⟩
     go_simp
     with_reducible rfl
    rotate_left
    ·simp only [Act.put, List.setIfInBounds_toArray, List.set_cons_zero, List.set_cons_succ, i64_w, i32_w]
     rfl
    refine take_ (i := 1) (N := some 23) (v := ?_) (a' := ?_) #[true, true, false, false, false] rfl rfl (by kernel_rfl) (fun _ _ _ h => h) (Or.inl ⟨by rfl, ?_⟩) hHeld ?_ ?_
    rotate_left
    ·rintro w' ⟨s0, s1, s2, s3, s4, s5, s6, s7, s8, s9, s10, s11, s12, s13, s14, s15, s16, s17, s18, s19, s20, s21⟩
     go_simp
     with_reducible rfl
    rotate_left
    ·simp only [Act.put, List.setIfInBounds_toArray, List.set_cons_zero, List.set_cons_succ, i64_w, i32_w]
     rfl
    refine one_ (i := 2) (N := some 24) #[true, true, true, false, false] rfl rfl (by kernel_rfl) (by decide) (fun K hK => ?_)
    refine goes_ Try.func43 (by kernel_rfl) rfl #[.agg #[.int .i64 a0_0, .int .i64 a0_1, .int .i64 a0_2, .int .i64 a0_3, .slice A0_4 l0_4.length c0_4, .int .i64 a0_5, .slice A0_6 l0_6.length c0_6, .int .i64 a0_7, .bool a0_8, .int .i64 a0_9, .int .i64 a0_10]] (by rfl) rfl rfl (by (try simp only [zU, zV, zW]); first | done | rfl | (simp only [zR, zQ]; rfl)) ?_
    with_reducible refine (laws_toDesk.calls k a0_0 a0_1 a0_2 a0_3 _ _ l0_4 a0_5 _ _ l0_6 a0_7 a0_8 a0_9 a0_10 t1329 t1330 t1331 t1332 t1333 t1336 t1337 t1340 t1341 t1342 t1343 _ ?side1 ?side2 ?side3 ?side4 A28.out).mono ?_
    (case side1 => repeat (first | exact (Kd.C_below HR0_4.out HB.out) | (with_reducible refine yH ?_ _) | (with_reducible refine yF ?_ _) | (with_reducible refine yG ?_)))
    (case side2 => exact HC0_4.out)
    (case side3 => repeat (first | exact (Kd.C_below HR0_6.out HB.out) | (with_reducible refine yH ?_ _) | (with_reducible refine yF ?_ _) | (with_reducible refine yG ?_)))
    (case side4 => exact HC0_6.out)
    rintro e w48 ⟨v1334, v1338, rfl, ho0, ho1, hb⟩
    refine ⟨_, rfl, ?_⟩
    have n0_ := zA (Kd.S_elder' (by (with_reducible repeat (first | apply zY | apply zZ | apply yA)); exact HO1302.out) (Kd.S_base ho0) hb)
    have n1_ := zA (Kd.R_elder' (by (with_reducible repeat (first | apply zN | apply zM | apply zO)); exact HO1306.out) (Kd.R_base ho1) hb)
    have n2_ := zA (Kd.S_elder' (by (with_reducible repeat (first | apply zY | apply zZ | apply yA)); exact HO1318.out) (Kd.S_base ho0) hb)
    have n3_ := zA (Kd.R_elder' (by (with_reducible repeat (first | apply zN | apply zM | apply zO)); exact HO1322.out) (Kd.R_base ho1) hb)
    have n4_ := zA (Kd.S_lower (Kd.S_new' (Kd.S_new' ho0 (Kd.S_lt (by (with_reducible repeat (first | apply zY | apply zZ | apply yA)); exact HO1302.out))) (Kd.S_lt (by (with_reducible repeat (first | apply zY | apply zZ | apply yA)); exact HO1318.out))) (zL (by repeat (first | (with_reducible first | exact HB.out | apply zC | apply zB | apply zF | refine zE ?_ GE1294.out | refine zE ?_ GE1327.out) | exact HB.out))))
    have n5_ := zA (Kd.R_lower (Kd.R_new' (Kd.R_new' ho1 (Kd.R_lt (by (with_reducible repeat (first | apply zN | apply zM | apply zO)); exact HO1306.out))) (Kd.R_lt (by (with_reducible repeat (first | apply zN | apply zM | apply zO)); exact HO1322.out))) (zL (by repeat (first | (with_reducible first | exact HB.out | apply zC | apply zB | apply zF | refine zE ?_ GE1294.out | refine zE ?_ GE1327.out) | exact HB.out))))
    have n6_ := zA (blk_below (g := gb1294) (o := .cells #[.int .i64 a0_0, .int .i64 a0_1, .int .i64 a0_2, .int .i64 a0_3, .slice A0_4 l0_4.length c0_4, .int .i64 a0_5, .slice A0_6 l0_6.length c0_6, .int .i64 a0_7, .bool a0_8, .int .i64 a0_9, .int .i64 a0_10] 78 (0, 0)) (by (with_reducible repeat (first | refine zG ?_ _ | refine zH ?_ | refine zD ?_ _)); exact BK1294.out) hb)
    have n7_ := zA (blk_below (g := gb1327) (o := .cells #[.int .i64 t1312, .int .i64 t1313, .int .i64 t1314, .int .i64 t1315, .slice Ao44 t1316.length co44, .int .i64 t1319, .slice Ao45 t1320.length co45, .int .i64 t1323, .bool t1324, .int .i64 t1325, .int .i64 t1326] 86 (0, 0)) (by (with_reducible repeat (first | refine zG ?_ _ | refine zH ?_ | refine zD ?_ _)); exact BK1327.out) hb)
    have n8_ := zA (below_step (by repeat (first | (with_reducible first | exact HB.out | apply zC | apply zB | apply zF | refine zE ?_ GE1294.out | refine zE ?_ GE1327.out) | exact HB.out)) hb)
    clear HO1302
    clear HO1306
    clear HO1318
    clear HO1322
    clear BK1294
    clear BK1327
    clear HB
    have HO1302 := n0_
    have HO1306 := n1_
    have HO1318 := n2_
    have HO1322 := n3_
    have HO1335 := n4_
    have HO1339 := n5_
    have BK1294 := n6_
    have BK1327 := n7_
    have HB := n8_
    clear n0_ n1_ n2_ n3_ n4_ n5_ n6_ n7_ n8_
    (try clear hb)
    (try clear hb2)
    (try clear hk)
    (try clear hi)
    (try clear ho0)
    (try clear ho1)
    obtain ⟨Ao49, co49, eo49⟩ := Kd.S_slice HO1335.out
    (first | subst eo49 | (injection eo49 with f1_ f2_ f3_; have f4_ := f1_.symm; have f5_ := f3_.symm; clear f1_ f2_ f3_; subst f4_; subst f5_))
    obtain ⟨Ao50, co50, eo50⟩ := Kd.R_slice HO1339.out
    (first | subst eo50 | (injection eo50 with f1_ f2_ f3_; have f4_ := f1_.symm; have f5_ := f3_.symm; clear f1_ f2_ f3_; subst f4_; subst f5_))
    refine hK.out _ _ ⟨(zK BK1327.out 0).trans rfl, (zK BK1327.out 1).trans rfl, (zK BK1327.out 2).trans rfl, (zK BK1327.out 3).trans rfl, (zK BK1327.out 4).trans rfl, (zK BK1327.out 5).trans rfl, (zK BK1327.out 6).trans rfl, (zK BK1327.out 7).trans rfl, (zK BK1327.out 8).trans rfl, (zK BK1327.out 9).trans rfl, (zK BK1327.out 10).trans rfl, (zK BK1294.out 0).trans rfl, (zK BK1294.out 1).trans rfl, (zK BK1294.out 2).trans rfl, (zK BK1294.out 3).trans rfl, (zK BK1294.out 4).trans rfl, (zK BK1294.out 5).trans rfl, (zK BK1294.out 6).trans rfl, (zK BK1294.out 7).trans rfl, (zK BK1294.out 8).trans rfl, (zK BK1294.out 9).trans rfl, (zK BK1294.out 10).trans rfl⟩ (fun hHeld => ?_)
    clear hK K
    refine norm_ (a' := ?_) ?_ ?_
    rotate_left
    ·show Act.put _ (some 24) _ = _
     simp only [Act.put, List.setIfInBounds_toArray, List.set_cons_zero, List.set_cons_succ, i64_w, i32_w]
     rfl
    refine one_ (i := 3) (N := some 25) #[true, true, true, true, false] rfl rfl (by kernel_rfl) (by decide) (fun K hK => ?_)
    refine goes_ Try.func45 (by kernel_rfl) rfl #[.agg #[.int .i64 t1312, .int .i64 t1313, .int .i64 t1314, .int .i64 t1315, .slice Ao44 t1316.length co44, .int .i64 t1319, .slice Ao45 t1320.length co45, .int .i64 t1323, .bool t1324, .int .i64 t1325, .int .i64 t1326], .agg #[.int .i64 t1329, .int .i64 t1330, .int .i64 t1331, .int .i64 t1332, .slice Ao49 t1333.length co49, .int .i64 t1336, .slice Ao50 t1337.length co50, .int .i64 t1340, .bool t1341, .int .i64 t1342, .int .i64 t1343]] (by rfl) rfl rfl (by (try simp only [zU, zV, zW]); first | done | rfl | (simp only [zR, zQ]; rfl)) ?_
    with_reducible refine (laws_eqDesk.calls k t1312 t1313 t1314 t1315 _ _ t1316 t1319 _ _ t1320 t1323 t1324 t1325 t1326 t1329 t1330 t1331 t1332 _ _ t1333 t1336 _ _ t1337 t1340 t1341 t1342 t1343 true _ ?side1 ?side2 ?side3 ?side4 ?side5 ?side6 ?side7 ?side8 A29.out).mono ?_
    (case side1 => repeat (first | exact (Kd.S_reads' HO1318.out).2.2 | (with_reducible refine yH ?_ _) | (with_reducible refine yF ?_ _) | (with_reducible refine yG ?_)))
    (case side2 => exact (Kd.S_reads' HO1318.out).2.1)
    (case side3 => repeat (first | exact (yE HO1322.out).2.2 | (with_reducible refine yH ?_ _) | (with_reducible refine yF ?_ _) | (with_reducible refine yG ?_)))
    (case side4 => exact (yE HO1322.out).2.1)
    (case side5 => repeat (first | exact (Kd.S_reads' HO1335.out).2.2 | (with_reducible refine yH ?_ _) | (with_reducible refine yF ?_ _) | (with_reducible refine yG ?_)))
    (case side6 => exact (Kd.S_reads' HO1335.out).2.1)
    (case side7 => repeat (first | exact (yE HO1339.out).2.2 | (with_reducible refine yH ?_ _) | (with_reducible refine yF ?_ _) | (with_reducible refine yG ?_)))
    (case side8 => exact (yE HO1339.out).2.1)
    rintro e w51 ⟨rfl, hb⟩
    refine ⟨_, rfl, ?_⟩
    have n0_ := zA (Kd.S_below (by (with_reducible repeat (first | apply zY | apply zZ | apply yA)); exact HO1302.out) hb)
    have n1_ := zA (Kd.R_below (by (with_reducible repeat (first | apply zN | apply zM | apply zO)); exact HO1306.out) hb)
    have n2_ := zA (Kd.S_below (by (with_reducible repeat (first | apply zY | apply zZ | apply yA)); exact HO1318.out) hb)
    have n3_ := zA (Kd.R_below (by (with_reducible repeat (first | apply zN | apply zM | apply zO)); exact HO1322.out) hb)
    have n4_ := zA (Kd.S_below (by (with_reducible repeat (first | apply zY | apply zZ | apply yA)); exact HO1335.out) hb)
    have n5_ := zA (Kd.R_below (by (with_reducible repeat (first | apply zN | apply zM | apply zO)); exact HO1339.out) hb)
    have n6_ := zA (blk_below (g := gb1294) (o := .cells #[.int .i64 a0_0, .int .i64 a0_1, .int .i64 a0_2, .int .i64 a0_3, .slice A0_4 l0_4.length c0_4, .int .i64 a0_5, .slice A0_6 l0_6.length c0_6, .int .i64 a0_7, .bool a0_8, .int .i64 a0_9, .int .i64 a0_10] 78 (0, 0)) (by (with_reducible repeat (first | refine zG ?_ _ | refine zH ?_ | refine zD ?_ _)); exact BK1294.out) hb)
    have n7_ := zA (blk_below (g := gb1327) (o := .cells #[.int .i64 t1312, .int .i64 t1313, .int .i64 t1314, .int .i64 t1315, .slice Ao44 t1316.length co44, .int .i64 t1319, .slice Ao45 t1320.length co45, .int .i64 t1323, .bool t1324, .int .i64 t1325, .int .i64 t1326] 86 (0, 0)) (by (with_reducible repeat (first | refine zG ?_ _ | refine zH ?_ | refine zD ?_ _)); exact BK1327.out) hb)
    have n8_ := zA (below_step (by repeat (first | (with_reducible first | exact HB.out | apply zC | apply zB | apply zF | refine zE ?_ GE1294.out | refine zE ?_ GE1327.out) | exact HB.out)) hb)
    clear HO1302
    clear HO1306
    clear HO1318
    clear HO1322
    clear HO1335
    clear HO1339
    clear BK1294
    clear BK1327
    clear HB
    have HO1302 := n0_
    have HO1306 := n1_
    have HO1318 := n2_
    have HO1322 := n3_
    have HO1335 := n4_
    have HO1339 := n5_
    have BK1294 := n6_
    have BK1327 := n7_
    have HB := n8_
    clear n0_ n1_ n2_ n3_ n4_ n5_ n6_ n7_ n8_
    (try clear hb)
    (try clear hb2)
    (try clear hk)
    (try clear hi)
    refine hK.out _ _ ⟨(zK BK1327.out 0).trans rfl, (zK BK1327.out 1).trans rfl, (zK BK1327.out 2).trans rfl, (zK BK1327.out 3).trans rfl, (zK BK1327.out 4).trans rfl, (zK BK1327.out 5).trans rfl, (zK BK1327.out 6).trans rfl, (zK BK1327.out 7).trans rfl, (zK BK1327.out 8).trans rfl, (zK BK1327.out 9).trans rfl, (zK BK1327.out 10).trans rfl, (zK BK1294.out 0).trans rfl, (zK BK1294.out 1).trans rfl, (zK BK1294.out 2).trans rfl, (zK BK1294.out 3).trans rfl, (zK BK1294.out 4).trans rfl, (zK BK1294.out 5).trans rfl, (zK BK1294.out 6).trans rfl, (zK BK1294.out 7).trans rfl, (zK BK1294.out 8).trans rfl, (zK BK1294.out 9).trans rfl, (zK BK1294.out 10).trans rfl⟩ (fun hHeld => ?_)
    clear hK K
    refine norm_ (a' := ?_) ?_ ?_
    rotate_left
    ·show Act.put _ (some 25) _ = _
     simp only [Act.put, List.setIfInBounds_toArray, List.set_cons_zero, List.set_cons_succ, i64_w, i32_w]
     rfl
    refine pure_ (i := 4) (N := some 26) (v := ?_) (a' := ?_) #[true, true, true, true, true] rfl rfl (by kernel_rfl) (fun _ _ _ h => h) (Or.inl ⟨by rfl, ?_⟩) ?_ ?_
    rotate_left
    ·intro w'
     go_simp
     with_reducible rfl
    rotate_left
    ·simp only [Act.put, List.setIfInBounds_toArray, List.set_cons_zero, List.set_cons_succ, i64_w, i32_w]
     rfl
    refine done_ (by kernel_rfl) ?_
    try go_wp2
    go_ret
    exact ⟨by first | rfl | (simp [errW_none, errW_some] <;> rfl) | (simp [*, errW_none, errW_some] <;> rfl), by repeat (first | (with_reducible first | exact HB.out | apply zC | apply zB | apply zF | refine zE ?_ GE1294.out | refine zE ?_ GE1327.out) | exact HB.out)⟩
   ·replace c30 := Bool.eq_false_iff.mpr c30
    subst c30
    have H1 : (some false) = some true := by rw [if_neg (show ¬ (false = true) by decide)] at H; exact H
    clear H
    have H := H1
    clear H1
    exact absurd (Option.some.inj H) Bool.false_ne_true
end Go.Proofs.Ytilimpjcdeeaiaa.G


namespace Go.Proofs.Ytilimpjcdeeaiaa.G
open Go.RowKit Go.Proofs.YtilimpjcdeeaiaaW.PrintWords Go.Proofs.YtilimpjcdeeaiaaW.PrintLast Go.Proofs.YtilimpjcdeeaiaaW.PrintMore
attribute [local go_sem] max2_int min2_int max_two min_two max_three min_three max_four min_four   -- for this text's walks alone
theorem szFeed_valA (l : List Int) (n : Int) (o : Bool) (fc fa : Int) (a : Int) (h0 : 0 ≤ a) (h1 : a ≤ 1048576) (h : l.length ≤ 9223372036854775807) : ∃ r, laws_szFeed.f l n o fc fa a = some r ∧ (0 ≤ r → l.length ≤ 1048576) := by
 unfold laws_szFeed.f laws_szByteS.f
 rw [wrap_in _ (by omega) (by omega)]
 by_cases hb : a - (l.length : Int) < 0
 ·exact ⟨-1, by rw [if_pos hb]; rfl, by omega⟩
 ·refine ⟨a - (l.length : Int), ?_, by omega⟩
  rw [if_neg hb]
  simp only [zS]
  rw [if_neg hb]
theorem pure_FnExactDeskOk (st p w h : Int) (pl : List (List Int)) (row : Int) (l : List Int) (n : Int) (o : Bool) (fc fa : Int) (hpl : pl.length ≤ 9223372036854775807 ∧ ∀ x ∈ pl, x.length ≤ 9223372036854775807 ∧ ∀ y ∈ x, (Lit.int .i64 y).wf = true) (hw : l.length ≤ 9223372036854775807 ∧ ∀ x ∈ l, (Lit.int .u8 x).wf = true) : ∃ k, laws_FnExactDeskOk.f k st p w h pl row l n o fc fa = some true := by
 refine Ev.rounds ?_
 have hsz : ∃ r, Ev (fun k => laws_szDesk.f k st p w h pl row l n o fc fa 1048576) r ∧ (0 ≤ r → (pl.length ≤ 1048576 ∧ ∀ x ∈ pl, x.length ≤ 1048576) ∧ l.length ≤ 1048576) := by
  unfold laws_szDesk.f
  obtain ⟨r, hr, hr1, hr2⟩ := laws_szIntSS.ev pl 1048576 (by omega) (by omega) hpl.1 (fun x hx => (hpl.2 x hx).1)
  have hp : Ev (fun k => laws_szPicture.f k p w h pl 1048576) (if r < 0 then -1 else r) := by
   unfold laws_szPicture.f
   refine Ev.bind hr ?_
   by_cases hn : r < 0
   ·exact Ev.eq (Ev.ip hn (Ev.now _)) (by rw [if_pos hn])
   ·exact Ev.eq (Ev.ng hn (Ev.now _)) (by rw [if_neg hn])
  by_cases hn : r < 0
  ·rw [if_pos hn] at hp
   exact ⟨-1, Ev.bind hp (Ev.ip (by omega) (Ev.now _)), by omega⟩
  ·rw [if_neg hn] at hp
   obtain ⟨q, hq, hq2⟩ := szFeed_valA l n o fc fa r (by omega) hr1 hw.1
   by_cases hqn : q < 0
   ·exact ⟨-1, Ev.bind hp (Ev.ng hn (Ev.bind (Ev.c hq) (Ev.ip hqn (Ev.now _)))), by omega⟩
   ·exact ⟨q, Ev.bind hp (Ev.ng hn (Ev.bind (Ev.c hq) (Ev.ng hqn (Ev.now _)))), fun h0 => ⟨hr2 (by omega), hq2 h0⟩⟩
 obtain ⟨r, hr, hr2⟩ := hsz
 unfold laws_FnExactDeskOk.f
 refine Ev.bind hr ?_
 by_cases hn : r < 0
 ·exact Ev.ip hn (Ev.now _)
 ·refine Ev.ng hn ?_
  obtain ⟨⟨p1, p2⟩, l1⟩ := hr2 (by omega)
  have hB : isB l = true := by
   unfold isB
   simp only [List.all_eq_true, Bool.and_eq_true, decide_eq_true_eq]
   exact fun x hx => wf_u8 (hw.2 x hx)
  have ht : Ev (fun k => laws_toDesk.f k st p w h pl row l n o fc fa) (st, p, w, h, pl, row, l, n, o, fc, fa) := by
   unfold laws_toDesk.f
   refine Ev.bind (Ev.c (r := (p, w, h, pl)) ?_) (Ev.bind (toFeed_ev l n o fc fa l1) (Ev.now _))
   unfold laws_toPicture.f
   rw [laws_toIntSS.val pl p1 p2]; rfl
  have hq : Ev (fun k => laws_eqDesk.f k st p w h pl row l n o fc fa st p w h pl row l n o fc fa) true := by
   unfold laws_eqDesk.f
   refine Ev.ip rfl (Ev.bind (Ev.eq (r' := true) ?_ rfl) (Ev.ip rfl (Ev.ip rfl (Ev.bind (eqFeed_ev l n o fc fa l1) (Ev.ip rfl (Ev.now _))))))
   unfold laws_eqPicture.f
   exact Ev.ip rfl (Ev.ip rfl (Ev.ip rfl (Ev.bind (laws_eqIntSS.T pl p1 p2) (Ev.ip rfl (Ev.now _)))))
  refine Ev.bind ht (Ev.bind (spec_DeskOk.ev st p w h pl row l n o fc fa hB) (Ev.bind ht (Ev.bind (impl_DeskOk.ev st p w h pl row l n o fc fa hB l1) ?_)))
  exact Ev.ng (by simp) (Ev.bind ht (Ev.bind hq (Ev.ip rfl (Ev.now _))))
theorem PureFnExactDeskOk : ∀ (st p w h : Int) (pl : List (List Int)) (row : Int) (l : List Int) (n : Int) (o : Bool) (fc fa : Int), (pl.length ≤ 9223372036854775807 ∧ ∀ x ∈ pl, x.length ≤ 9223372036854775807 ∧ ∀ y ∈ x, (Lit.int .i64 y).wf = true) → (l.length ≤ 9223372036854775807 ∧ ∀ x ∈ l, (Lit.int .u8 x).wf = true) → ∃ k, laws_FnExactDeskOk.f k st p w h pl row l n o fc fa = some true :=
 pure_FnExactDeskOk
end Go.Proofs.Ytilimpjcdeeaiaa.G


namespace Go.Proofs.Ytilimpjcdeeaiaa.G
open Go.RowKit Go.Proofs.YtilimpjcdeeaiaaW.PrintWords Go.Proofs.YtilimpjcdeeaiaaW.PrintLast Go.Proofs.YtilimpjcdeeaiaaW.PrintMore
attribute [local go_sem] max2_int min2_int max_two min_two max_three min_three max_four min_four   -- for this text's walks alone
--import Derived.Deep.Slices
--import Derived.ChangeArms
/-- type t reads as kind d, with values that are wf -/
def Opens {α : Type} (P : Program) (t : TypeId) (d : Kd α) (wf : α → Prop) : Prop :=
 P.cellsOf t = d.sz ∧ ∀ {H : Type} {enc : TypeId × Value → H} {w : World} {base fuel : Nat} {cs : List Value} {x : DataW H × List MemPlace}, DataW.trod enc P w base (fun _ => true) true fuel t cs = some x → ∃ a, d.K w a cs ∧ wf a
theorem opens_int {P : Program} {t : TypeId} {k : IntKind} (hc : P.cellsOf t = 1) (ht : P.underlying t = some (.int k)) : Opens P t (Kd.int k) (fun n => (Lit.int k n).wf = true) :=
 ⟨hc, fun h => by
  obtain ⟨n, rfl, _, hw⟩ := DataW.trod_int ht h
  exact ⟨n, rfl, hw⟩⟩
theorem opens_bool {P : Program} {t : TypeId} (hc : P.cellsOf t = 1) (ht : P.underlying t = some .bool) : Opens P t Kd.bool (fun _ => True) :=
 ⟨hc, fun h => by
  obtain ⟨b, rfl, _⟩ := DataW.trod_bool ht h
  exact ⟨b, rfl, trivial⟩⟩
theorem opens_slice {α : Type} {P : Program} {t e : TypeId} {d : Kd α} {wf : α → Prop} (hc : P.cellsOf t = 1) (ht : P.underlying t = some (.slice e)) (h0 : Opens P e d wf) : Opens P t (Kd.slice e d) (fun l => l.length ≤ 9223372036854775807 ∧ ∀ x ∈ l, wf x) :=
 ⟨hc, fun {H enc w base fuel cs x} h => by
  rcases Go.Deep.open_slice ht h with ⟨rfl, _⟩ | ⟨a, len, cap, m, n, D, Pl, rfl, hb, hl, hm, hmm, rfl, hx⟩
  ·exact ⟨[], ⟨none, 0, rfl, Nat.le_refl _, rfl, by simp, fun h => absurd h (by simp)⟩, by simp, by simp⟩
  ·simp only [if_true] at hmm
   subst hmm
   have build : ∀ n, n ≤ len → ∃ l : List α, l.length = n ∧ (∀ j p, l[j]? = some p → ∃ c, c.length = d.sz ∧ d.K w p c ∧ ∀ i u, c[i]? = some u → w.cell? (a.add (j * d.sz + i)) = some u) ∧ ∀ x ∈ l, wf x := by
    intro n
    induction n with
    | zero => exact fun _ => ⟨[], rfl, by simp, by simp⟩
    | succ n ih =>
     intro hn
     obtain ⟨l, hl1, hl2, hl3⟩ := ih (by omega)
     obtain ⟨cs', h1, h2⟩ := hx n (by omega)
     obtain ⟨b, hk, hw⟩ := h0.2 h2
     obtain ⟨_, hcl, hcell⟩ := World.cells?_some h1
     rw [h0.1] at hcl hcell
     refine ⟨l ++ [b], by simp [hl1], fun j p hj => ?_, fun x hx => ?_⟩
     ·rcases Nat.lt_or_ge j l.length with hlt | hge
      ·rw [List.getElem?_append_left hlt] at hj
       exact hl2 j p hj
      ·obtain rfl : j = l.length := by
        have := (List.getElem?_eq_some_iff.1 hj).1
        simp at this; omega
       obtain rfl : b = p := by simpa using hj
       refine ⟨cs', hcl, hk, fun i u hu => ?_⟩
       have hi : i < d.sz := by rw [← hcl]; exact (List.getElem?_eq_some_iff.1 hu).1
       have := hcell i hi
       rw [Go.Deep.add_add] at this
       rw [hl1, this, hu]
     ·rcases List.mem_append.1 hx with hx | hx
      ·exact hl3 x hx
      ·rw [List.mem_singleton.1 hx]; exact hw
   obtain ⟨l, hl1, hl2, hl3⟩ := build len (Nat.le_refl _)
   subst hl1
   have hm' : m ≤ 9223372036854775807 := hm
   exact ⟨l, ⟨some a, m, rfl, hl, rfl, by omega, fun _ => ⟨a, rfl, hl2⟩⟩, by omega, hl3⟩⟩
end Go.Proofs.Ytilimpjcdeeaiaa.G


namespace Go.Proofs.Ytilimpjcdeeaiaa.fnExactDeskOk
open Go.ChangeShapes Go.WideShapes Go.ChangeAt Go.RowKit Go.Proofs.Ytilimpjcdeeaiaa.G Go.Proofs.YtilimpjcdeeaiaaW.PrintWords
open Go.ChangeMaps (open_string shut_string)
theorem own : ownKnob Try.prog.godebug = none := by kernel_rfl
theorem laidOut : laidOutB Try.prog = true := by kernel_rfl
set_option maxRecDepth 100000 in
theorem open_fault {H : Type} {enc : TypeId × Value → H} {w : World} {base fuel : Nat} {cs : List Value} {x : DataW H × List MemPlace} (h : DataW.trod enc Try.prog w base (fun _ => true) true fuel 74 cs = some x) : ∃ a b : Int, cs = [.int .i64 a, .int .i64 b] := by
 obtain ⟨xs, n, _, _, hl, hlen, hf⟩ := DataW.trod_struct Try.underlying74 h
 have e : Try.prog.cellsOf 74 = 2 := by kernel_rfl
 have e3 : Try.prog.cellsOf 3 = 1 := by kernel_rfl
 rw [e] at hl
 have hlen : xs.length = 2 := hlen
 match cs, hl, xs, hlen with
 | [c0, c1], _, [y0, y1], _ =>
  have h0 : DataW.trod enc Try.prog w base (fun _ => true) true n 3 (([c0, c1].drop 0).take (Try.prog.cellsOf 3)) = some y0 := hf 0 _ rfl
  have h1 : DataW.trod enc Try.prog w base (fun _ => true) true n 3 (([c0, c1].drop 1).take (Try.prog.cellsOf 3)) = some y1 := hf 1 _ rfl
  rw [e3] at h0 h1
  obtain ⟨a, ha, _⟩ := (opens_int e3 Try.underlying3).2 (x := y0) h0
  obtain ⟨b, hb, _⟩ := (opens_int e3 Try.underlying3).2 (x := y1) h1
  have ha' : [c0] = [Value.int .i64 a] := ha
  have hb' : [c1] = [Value.int .i64 b] := hb
  injection ha' with ha' _
  injection hb' with hb' _
  exact ⟨a, b, by rw [ha', hb']⟩
set_option maxRecDepth 100000 in
theorem open_feed {H : Type} {enc : TypeId × Value → H} {w : World} {base fuel : Nat} {cs : List Value} {x : DataW H × List MemPlace} (h : DataW.trod enc Try.prog w base (fun _ => true) true fuel 76 cs = some x) :
  ∃ (A : Option Addr) (c : Nat) (l : List Int) (n : Int) (o : Bool) (fc fa : Int), cs = [.slice A l.length c, .int .i64 n, .bool o, .int .i64 fc, .int .i64 fa] ∧ l.length ≤ c ∧ Kd.C (Kd.int .u8) w A l.length l ∧ (l.length ≤ 9223372036854775807 ∧ ∀ x ∈ l, (Lit.int .u8 x).wf = true) := by
 obtain ⟨xs, n, _, _, hl, hlen, hf⟩ := DataW.trod_struct Try.underlying76 h
 have e : Try.prog.cellsOf 76 = 5 := by kernel_rfl
 have e3 : Try.prog.cellsOf 3 = 1 := by kernel_rfl
 have e4 : Try.prog.cellsOf 4 = 1 := by kernel_rfl
 have e23 : Try.prog.cellsOf 22 = 1 := by kernel_rfl
 have e71 : Try.prog.cellsOf 74 = 2 := by kernel_rfl
 rw [e] at hl
 have hlen : xs.length = 4 := hlen
 match cs, hl, xs, hlen with
 | [c0, c1, c2, c3, c4], _, [y0, y1, y2, y3], _ =>
  have h0 : DataW.trod enc Try.prog w base (fun _ => true) true n 22 (([c0, c1, c2, c3, c4].drop 0).take (Try.prog.cellsOf 22)) = some y0 := hf 0 _ rfl
  have h1 : DataW.trod enc Try.prog w base (fun _ => true) true n 3 (([c0, c1, c2, c3, c4].drop 1).take (Try.prog.cellsOf 3)) = some y1 := hf 1 _ rfl
  have h2 : DataW.trod enc Try.prog w base (fun _ => true) true n 4 (([c0, c1, c2, c3, c4].drop 2).take (Try.prog.cellsOf 4)) = some y2 := hf 2 _ rfl
  have h3 : DataW.trod enc Try.prog w base (fun _ => true) true n 74 (([c0, c1, c2, c3, c4].drop 3).take (Try.prog.cellsOf 74)) = some y3 := hf 3 _ rfl
  rw [e23] at h0
  rw [e3] at h1
  rw [e4] at h2
  rw [e71] at h3
  obtain ⟨l, ⟨A, c, hA, hlc, hC⟩, hw⟩ := (opens_slice e23 Try.underlying22 (opens_int (by kernel_rfl) Try.underlying5)).2 (x := y0) h0
  obtain ⟨n1, hn1, _⟩ := (opens_int e3 Try.underlying3).2 (x := y1) h1
  obtain ⟨o, ho, _⟩ := (opens_bool e4 Try.underlying4).2 (x := y2) h2
  obtain ⟨fc, fa, hff⟩ := open_fault (x := y3) h3
  have hA' : [c0] = [Value.slice A l.length c] := hA
  have hn' : [c1] = [Value.int .i64 n1] := hn1
  have ho' : [c2] = [Value.bool o] := ho
  have hf' : [c3, c4] = [Value.int .i64 fc, Value.int .i64 fa] := hff
  injection hA' with hA' _
  injection hn' with hn' _
  injection ho' with ho' _
  injection hf' with hf1 hf2
  injection hf2 with hf2 _
  exact ⟨A, c, l, n1, o, fc, fa, by rw [hA', hn', ho', hf1, hf2], hlc, hC, hw⟩
set_option maxRecDepth 100000 in
theorem open_picture {H : Type} {enc : TypeId × Value → H} {w : World} {base fuel : Nat} {cs : List Value} {x : DataW H × List MemPlace} (h : DataW.trod enc Try.prog w base (fun _ => true) true fuel 72 cs = some x) :
  ∃ (p wd ht : Int) (A : Option Addr) (c : Nat) (l : List (List Int)), cs = [.int .i64 p, .int .i64 wd, .int .i64 ht, .slice A l.length c] ∧ l.length ≤ c ∧ Kd.C (Kd.slice 3 (Kd.int .i64)) w A l.length l ∧ (l.length ≤ 9223372036854775807 ∧ ∀ x ∈ l, x.length ≤ 9223372036854775807 ∧ ∀ y ∈ x, (Lit.int .i64 y).wf = true) := by
 obtain ⟨xs, n, _, _, hl, hlen, hf⟩ := DataW.trod_struct Try.underlying72 h
 have e : Try.prog.cellsOf 72 = 4 := by kernel_rfl
 have e3 : Try.prog.cellsOf 3 = 1 := by kernel_rfl
 have e22 : Try.prog.cellsOf 34 = 1 := by kernel_rfl
 rw [e] at hl
 have hlen : xs.length = 4 := hlen
 match cs, hl, xs, hlen with
 | [c0, c1, c2, c3], _, [y0, y1, y2, y3], _ =>
  have h0 : DataW.trod enc Try.prog w base (fun _ => true) true n 3 (([c0, c1, c2, c3].drop 0).take (Try.prog.cellsOf 3)) = some y0 := hf 0 _ rfl
  have h1 : DataW.trod enc Try.prog w base (fun _ => true) true n 3 (([c0, c1, c2, c3].drop 1).take (Try.prog.cellsOf 3)) = some y1 := hf 1 _ rfl
  have h2 : DataW.trod enc Try.prog w base (fun _ => true) true n 3 (([c0, c1, c2, c3].drop 2).take (Try.prog.cellsOf 3)) = some y2 := hf 2 _ rfl
  have h3 : DataW.trod enc Try.prog w base (fun _ => true) true n 34 (([c0, c1, c2, c3].drop 3).take (Try.prog.cellsOf 34)) = some y3 := hf 3 _ rfl
  rw [e3] at h0 h1 h2
  rw [e22] at h3
  obtain ⟨a0, ha0, _⟩ := (opens_int e3 Try.underlying3).2 (x := y0) h0
  obtain ⟨a1, ha1, _⟩ := (opens_int e3 Try.underlying3).2 (x := y1) h1
  obtain ⟨a2, ha2, _⟩ := (opens_int e3 Try.underlying3).2 (x := y2) h2
  obtain ⟨l, ⟨A, c, hA, hlc, hC⟩, hw⟩ := (opens_slice e22 Try.underlying34 (opens_slice (by kernel_rfl) Try.underlying36 (opens_int (by kernel_rfl) Try.underlying3))).2 (x := y3) h3
  have ha0' : [c0] = [Value.int .i64 a0] := ha0
  have ha1' : [c1] = [Value.int .i64 a1] := ha1
  have ha2' : [c2] = [Value.int .i64 a2] := ha2
  have hA' : [c3] = [Value.slice A l.length c] := hA
  injection ha0' with ha0' _
  injection ha1' with ha1' _
  injection ha2' with ha2' _
  injection hA' with hA' _
  exact ⟨a0, a1, a2, A, c, l, by rw [ha0', ha1', ha2', hA'], hlc, hC, hw⟩
set_option maxRecDepth 100000 in
theorem open_desk {H : Type} {enc : TypeId × Value → H} {w : World} {base fuel : Nat} {cs : List Value} {x : DataW H × List MemPlace} (h : DataW.trod enc Try.prog w base (fun _ => true) true fuel 78 cs = some x) :
  ∃ (st p wd ht : Int) (A : Option Addr) (c : Nat) (pl : List (List Int)) (row : Int) (A2 : Option Addr) (c2 : Nat) (l : List Int) (n : Int) (o : Bool) (fc fa : Int), cs = [.int .i64 st, .int .i64 p, .int .i64 wd, .int .i64 ht, .slice A pl.length c, .int .i64 row, .slice A2 l.length c2, .int .i64 n, .bool o, .int .i64 fc, .int .i64 fa] ∧
   (pl.length ≤ c ∧ Kd.C (Kd.slice 3 (Kd.int .i64)) w A pl.length pl ∧ (pl.length ≤ 9223372036854775807 ∧ ∀ x ∈ pl, x.length ≤ 9223372036854775807 ∧ ∀ y ∈ x, (Lit.int .i64 y).wf = true)) ∧
   (l.length ≤ c2 ∧ Kd.C (Kd.int .u8) w A2 l.length l ∧ (l.length ≤ 9223372036854775807 ∧ ∀ x ∈ l, (Lit.int .u8 x).wf = true)) := by
 obtain ⟨xs, n, _, _, hl, hlen, hf⟩ := DataW.trod_struct Try.underlying78 h
 have e : Try.prog.cellsOf 78 = 11 := by kernel_rfl
 have e3 : Try.prog.cellsOf 3 = 1 := by kernel_rfl
 have ep : Try.prog.cellsOf 72 = 4 := by kernel_rfl
 have ef : Try.prog.cellsOf 76 = 5 := by kernel_rfl
 rw [e] at hl
 have hlen : xs.length = 4 := hlen
 match cs, hl, xs, hlen with
 | [c0, c1, c2, c3, c4, c5, c6, c7, c8, c9, c10], _, [y0, y1, y2, y3], _ =>
  have h0 : DataW.trod enc Try.prog w base (fun _ => true) true n 3 (([c0, c1, c2, c3, c4, c5, c6, c7, c8, c9, c10].drop 0).take (Try.prog.cellsOf 3)) = some y0 := hf 0 _ rfl
  have h1 : DataW.trod enc Try.prog w base (fun _ => true) true n 72 (([c0, c1, c2, c3, c4, c5, c6, c7, c8, c9, c10].drop 1).take (Try.prog.cellsOf 72)) = some y1 := hf 1 _ rfl
  have h2 : DataW.trod enc Try.prog w base (fun _ => true) true n 3 (([c0, c1, c2, c3, c4, c5, c6, c7, c8, c9, c10].drop 5).take (Try.prog.cellsOf 3)) = some y2 := hf 2 _ rfl
  have h3 : DataW.trod enc Try.prog w base (fun _ => true) true n 76 (([c0, c1, c2, c3, c4, c5, c6, c7, c8, c9, c10].drop 6).take (Try.prog.cellsOf 76)) = some y3 := hf 3 _ rfl
  rw [e3] at h0 h2
  rw [ep] at h1
  rw [ef] at h3
  obtain ⟨st, hst, _⟩ := (opens_int e3 Try.underlying3).2 (x := y0) h0
  obtain ⟨row, hrow, _⟩ := (opens_int e3 Try.underlying3).2 (x := y2) h2
  obtain ⟨p, wd, ht, A, c, pl, hp, hp2⟩ := open_picture h1
  obtain ⟨A2, c2_, l, fn, o, fc, fa, hq, hq2⟩ := open_feed h3
  have hst' : [c0] = [Value.int .i64 st] := hst
  have hrow' : [c5] = [Value.int .i64 row] := hrow
  have hp' : [c1, c2, c3, c4] = [Value.int .i64 p, Value.int .i64 wd, Value.int .i64 ht, Value.slice A pl.length c] := hp
  have hq' : [c6, c7, c8, c9, c10] = [Value.slice A2 l.length c2_, Value.int .i64 fn, Value.bool o, Value.int .i64 fc, Value.int .i64 fa] := hq
  injection hst' with hst' _
  injection hrow' with hrow' _
  injection hp' with p1 hp'
  injection hp' with p2 hp'
  injection hp' with p3 hp'
  injection hp' with p4 _
  injection hq' with q1 hq'
  injection hq' with q2 hq'
  injection hq' with q3 hq'
  injection hq' with q4 hq'
  injection hq' with q5 _
  exact ⟨st, p, wd, ht, A, c, pl, row, A2, c2_, l, fn, o, fc, fa, by rw [hst', hrow', p1, p2, p3, p4, q1, q2, q3, q4, q5], hp2, hq2⟩
set_option maxRecDepth 100000 in
theorem lifted (os : Os) (started : os.Started) (H : Type) (enc : TypeId × Value → H) :
  ReturnsInHanded {} Try.checked os 6 .any (Rows.fnExactDeskOkSpec.pre6 enc Try.prog Try.f6 Rows.fnExactDeskOkRow.domain false) (Rows.fnExactDeskOkSpec.post enc Try.prog Try.f6 false true false false) := by
 refine returnsInHanded_of_change_sized (C := Try.checked) own started (by kernel_rfl) Try.func6
  (ChangeSpec.witness6 (enc := enc) (C := Try.checked) false ⟨#[], #[.agg #[.int .i64 0, .int .i64 0, .int .i64 0, .int .i64 0, .slice none 0 0, .int .i64 0, .slice none 0 0, .int .i64 0, .bool false, .int .i64 0, .int .i64 0]], []⟩ 8 (by kernel_rfl) (by kernel_rfl) (by kernel_rfl) (by kernel_rfl)) ?_
 intro W base args ds gs before hval0 hW hcnd hsz0 _
 have hval : ∀ (j : Nat) t v, Try.f6.params[j]? = some t → args[j]? = some v → Value.okWide Try.prog W .any base t v := hval0
 have hW' := hW
 obtain ⟨p, q, hA0, hV, rfl, hfz, hnd⟩ := hW
 have hA : DataW.TrodAll enc Try.prog W 0 (fun _ => true) true Try.f6.params.toList args.toList ds p := hA0
 rw [Try.params6] at hA hval
 obtain ⟨v0, vs0, d0, ds0, p0, q0, hargs, rfl, rfl, h0, r0⟩ := trodAll_cons hA
 obtain ⟨rfl, rfl, rfl⟩ := trodAll_nil r0
 obtain rfl : args = #[v0] := by cases args; simp_all
 obtain ⟨rfl, rfl⟩ := trodVars_none hV
 obtain ⟨cs0, rfl, hcs0⟩ := okWide_struct Try.underlying78 (hval 0 78 v0 rfl rfl)
 have k0 := h0
 have lt0 : ∀ x ∈ p0, x.block < W.heap.size := by obtain ⟨m, hm⟩ := k0; exact DataW.trod_lt m _ _ _ hm
 obtain ⟨fuel0, hf0⟩ := h0
 obtain ⟨st, p_, wd, ht, A, c, pl, row, A2, c2, l, n, o, fc, fa, hcs, ⟨hl, hC, hw⟩, hl2, hC2, hw2⟩ := open_desk hf0
 have hcs2 : cs0 = #[.int .i64 st, .int .i64 p_, .int .i64 wd, .int .i64 ht, .slice A pl.length c, .int .i64 row, .slice A2 l.length c2, .int .i64 n, .bool o, .int .i64 fc, .int .i64 fa] := by
  have : cs0.toList = [.int .i64 st, .int .i64 p_, .int .i64 wd, .int .i64 ht, .slice A pl.length c, .int .i64 row, .slice A2 l.length c2, .int .i64 n, .bool o, .int .i64 fc, .int .i64 fa] := hcs
  cases cs0; simp_all
 subst hcs2
 clear hA0 hval0 hsz0
 obtain ⟨k, hk⟩ := PureFnExactDeskOk st p_ wd ht pl row l n o fc fa hw hw2
 refine (laws_FnExactDeskOk.calls k st p_ wd ht A c pl row A2 c2 l n o fc fa W hC hl hC2 hl2 hk).mono fun e W' ⟨he, bel0⟩ => ?_
 have bel : Below W.heap.size W W' := bel0
 subst he
 exact ⟨_, rfl, _, _, _, [], _, [], hW', trodAll_mk1 (shut_bool Try.underlying4 _), (trodAll_cons_mk (Below.trod laidOut (by kernel_rfl) (zI (by kernel_rfl)) k0 bel lt0) trodAll_mk0), rfl, bel.frame _, fun h => by cases h⟩
theorem over : Rows.fnExactDeskOkRow.holds Try.pinned (OpenSpec.ofChange Rows.fnExactDeskOkSpec) :=
 OpenClaim.holds_of_wide 6 Try.f6 rfl rfl rfl rfl rfl rfl rfl ⟨rfl, rfl, rfl, rfl, rfl⟩ rfl rfl rfl rfl rfl (by kernel_rfl) Try.func6 (by kernel_rfl)
  (zI (by kernel_rfl)) (by unfold Func.isWrapper; first | (rw [if_pos (by decide +kernel)]; kernel_rfl) | (rw [if_neg (by decide +kernel)]; exact ⟨rfl, rfl⟩))
  (fun os started H enc _ => lifted os started H enc)
theorem proved : Rows.FnExactDeskOkSaid := over
#print axioms proved
end Go.Proofs.Ytilimpjcdeeaiaa.fnExactDeskOk
namespace Go.Proofs.Ytilimpjcdeeaiaa
/-- The row, under a short name, for the claim. -/
theorem fnExactDeskOk_holds : Rows.FnExactDeskOkSaid := fnExactDeskOk.proved
end Go.Proofs.Ytilimpjcdeeaiaa

