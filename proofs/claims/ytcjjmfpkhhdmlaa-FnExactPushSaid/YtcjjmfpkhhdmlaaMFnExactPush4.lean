/- The law FnExactPush: for every feed and every piece the program's Push answers as the reference's, writes into neither and keeps nothing of them, and its answer owns its memory. No condition. -/
import Derived.Deep.Slices
import Derived.ChangeArms
import Derived.Test.YtcjjmfpkhhdmlaaRows
import Derived.WalkKit
import Derived.ProofKit
import Derived.OpenShut
import Derived.ShutString
import Derived.ChangeOld
import Derived.Below
import Derived.SizedLaws
import Derived.ChangeSame
import Derived.Test.YtcjjmfpkhhdmlaaMFnExactPush3
set_option linter.unusedVariables false
set_option linter.unusedSimpArgs false
namespace Go.Proofs.Ytcjjmfpkhhdmlaa.G
open Go.RowKit Go.Proofs.YtcjjmfpkhhdmlaaW.PrintWords Go.Proofs.YtcjjmfpkhhdmlaaW.PrintLast Go.Proofs.YtcjjmfpkhhdmlaaW.PrintMore
attribute [local go_sem] max2_int min2_int max_two min_two max_three min_three max_four min_four   -- for this text's walks alone
/-! ### laws_markFeed: function 71 -/
def laws_markFeed.f (k : Nat) (l0_0 : List Int) (a0_1 : Int) (a0_2 : Bool) (a0_3 : Int) (a0_4 : Int) (a1 : Int) : Option (Int × List Int) := (laws_markByteS.f k l0_0 a1).bind fun bt1102 => (some (bt1102.1, bt1102.2))
theorem laws_markFeed.mono : ∀ a0 a1 a2 a3 a4 a5 k, LeO (laws_markFeed.f k a0 a1 a2 a3 a4 a5) (laws_markFeed.f (k + 1) a0 a1 a2 a3 a4 a5) := by
 intro a0 a1 a2 a3 a4 a5 k
 unfold laws_markFeed.f
 repeat' first
   | (with_reducible exact laws_markByteS.mono _ _ _)
   | (with_reducible exact LeO.refl _)
   | (with_reducible exact LeO.none _)
   | (with_reducible refine LeO.ite ?_ ?_)
   | (with_reducible refine LeO.bind ?_ (fun _ => ?_))
   | exact laws_markByteS.mono _ _ _
   | exact LeO.none _
   | refine LeO.ite ?_ ?_
   | refine LeO.bind ?_ (fun _ => ?_)
set_option maxHeartbeats 8000000 in
set_option maxRecDepth 100000 in
theorem laws_markFeed.calls (k : Nat) (P0_0_ : Nat → Prop) (u9000_ : Value) (l0_0 : List Int) (a0_1 : Int) (a0_2 : Bool) (a0_3 : Int) (a0_4 : Int) (a1 : Int) (r1 : Int) (r2 : List Int) (w0 w : World) (hB : Below w0.heap.size w0 w) (ho0_0 : Kd.R (Kd.int .u8) 5 w w0.heap.size P0_0_ u9000_ l0_0) (h : laws_markFeed.f k l0_0 a0_1 a0_2 a0_3 a0_4 a1 = some (r1, r2)) :
  Calls Try.prog 71 #[.agg #[u9000_, .int .i64 a0_1, .bool a0_2, .int .i64 a0_3, .int .i64 a0_4], .int .i64 a1] w fun e w' => e = .returned (.int .i64 r1) ∧ Kd.R (Kd.int .u8) 5 w' w0.heap.size (fun k_ => (P0_0_ k_ ∨ w.heap.size ≤ k_)) u9000_ r2 ∧ Below w0.heap.size w0 w' ∧ Kept w w' (fun k_ => P0_0_ k_) := by
 have hu77 := Try.underlying77
 have HO0_0 := Aside0.mk (show Kd.R (Kd.int .u8) 5 w w0.heap.size (fun k_ => (P0_0_ k_ ∨ w.heap.size ≤ k_)) u9000_ l0_0 from Kd.R_mono ho0_0 (fun k_ hk => (.inl hk)))
 have HK := Aside0.mk (Kept.refl w (fun k_ => P0_0_ k_))
 have HW0 := Aside0.mk hB.size
 have HB := Aside0.mk hB
 clear hB
 have H : ((laws_markByteS.f k l0_0 a1).bind fun bt1102 => (some (bt1102.1, bt1102.2))) = some (r1, r2) := h
 clear h
 replace H := Option.bind_eq_some_iff.mp H
 obtain ⟨⟨t1102, t1103⟩, A30, H⟩ := H
 replace H : (some (t1102, t1103)) = some (r1, r2) := H
 have A3 := Aside0.mk A30
 clear A30
 simp only [Option.some.injEq, Prod.mk.injEq] at H
 obtain ⟨rfl, rfl⟩ := H
 obtain ⟨Ao4, co4, eo4⟩ := Kd.R_slice HO0_0.out
 subst eo4
 go_enter Try.func71, Try.ntmps71
 go_wp2_with (first | ((with_reducible refine gate_dst (N := 2) rfl ?_); refine box_event ?hg (N := 2) ?hd (cs := #[.slice Ao4 l0_0.length co4, .int .i64 a0_1, .bool a0_2, .int .i64 a0_3, .int .i64 a0_4]) (t := 77) ?hr ?_; (case hd => rfl); (case hg => rfl); (case hr => first | (go_simp; done) | (go_simp; rfl)); intro gb1101 hg w5 hbox hb; have n0_ := Aside0.mk (Kd.R_below (by (with_reducible repeat (first | apply Kd.R_alloc | apply Kd.R_drewN | apply Kd.R_drew)); exact HO0_0.out) hb); have n1_ := Aside0.mk (Kept.below (S := (fun k_ => P0_0_ k_)) (by repeat (first | (with_reducible first | exact HK.out | apply Kept.alloc | apply Kept.drewN | apply Kept.drew) | exact HK.out)) hb); have n2_ := Aside0.mk (below_step (by repeat (first | (with_reducible first | exact HB.out | apply below_alloc | apply pw_below_drewN | apply below_drew1) | exact HB.out)) hb); have n3_ := Aside0.mk (hbox); have n4_ := Aside0.mk ((by rw [hg]; exact (by first | exact HK.out.1 | exact (show Kept w _ (fun k_ => P0_0_ k_) from by repeat (first | (with_reducible first | exact HK.out | apply Kept.alloc | apply Kept.drewN | apply Kept.drew) | exact HK.out)).1) : w.heap.size ≤ gb1101)); have n5_ := Aside0.mk ((by rw [hg]; exact (below_size (by repeat (first | (with_reducible first | exact HB.out | apply below_alloc | apply pw_below_drewN | apply below_drew1) | exact HB.out))) : w0.heap.size ≤ gb1101)); clear HO0_0; clear HK; clear HB; have HO0_0 := n0_; have HK := n1_; have HB := n2_; have BK1101 := n3_; have GW1101 := n4_; have GE1101 := n5_; clear n0_ n1_ n2_ n3_ n4_ n5_; clear hb hbox hg; have hcz6_0 : w5.cell? ⟨gb1101, 0, none⟩ = some (.slice Ao4 l0_0.length co4) := (blk_cell BK1101.out 0).trans rfl; have hcz6_1 : w5.cell? ⟨gb1101, 1, none⟩ = some (.int .i64 a0_1) := (blk_cell BK1101.out 1).trans rfl; have hcz6_2 : w5.cell? ⟨gb1101, 2, none⟩ = some (.bool a0_2) := (blk_cell BK1101.out 2).trans rfl; have hcz6_3 : w5.cell? ⟨gb1101, 3, none⟩ = some (.int .i64 a0_3) := (blk_cell BK1101.out 3).trans rfl; have hcz6_4 : w5.cell? ⟨gb1101, 4, none⟩ = some (.int .i64 a0_4) := (blk_cell BK1101.out 4).trans rfl; have hfz6_0 := blk_frozen BK1101.out 0; have hfz6_1 := blk_frozen BK1101.out 1; have hfz6_2 := blk_frozen BK1101.out 2; have hfz6_3 := blk_frozen BK1101.out 3; have hfz6_4 := blk_frozen BK1101.out 4) | ((with_reducible refine gate_callee (f := 22) rfl ?_); refine goesL_ (some 8) rfl rfl Try.func22 (by kernel_rfl) rfl #[.slice Ao4 l0_0.length co4, .int .i64 a1] rfl (by (try simp only [List.map_toArray, List.map_cons, List.map_nil]); first | done | rfl | (simp only [List.length_drop, List.length_take]; rfl)) ?_; (with_reducible refine (laws_markByteS.calls k (fun k_ => some k_ = (.slice Ao4 l0_0.length co4 : Value).ownBlock) (.slice Ao4 l0_0.length co4) l0_0 a1 t1102 t1103 w0 _ ?side1 ?side2 A3.out).mono ?_); (case side1 => repeat (first | (with_reducible first | exact HB.out | apply below_alloc | apply pw_below_drewN | apply below_drew1 | refine below_set ?_ GE1101.out) | exact HB.out)); (case side2 => exact Kd.R_tight rfl HO0_0.out); rintro e w7 ⟨rfl, hy0, hb, hkp⟩; refine ⟨_, rfl, ?_⟩; have n0_ := Aside0.mk (Kd.R_reok rfl hy0 (fun k_ e_ => HO0_0.out.1 k_ e_)); have n1_ := Aside0.mk (blk_kept (by (with_reducible repeat (first | refine blk_drewN ?_ _ | refine blk_drew ?_ | refine blk_alloc ?_ _)); exact BK1101.out) hkp (fun hs_ => (fun e_ => (Kd.R_ne HO0_0.out BK1101.out (by decide)) e_) hs_)); have n2_ := Aside0.mk (Kept.then_ (S := (fun k_ => P0_0_ k_)) (by repeat (first | (with_reducible first | exact HK.out | apply Kept.alloc | apply Kept.drewN | apply Kept.drew | refine Kept.setCell ?_ (.inr GW1101.out) _) | exact HK.out)) hkp (fun k_ hs_ => (fun e_ => (HO0_0.out.1 k_ e_.symm)) hs_)); have n3_ := Aside0.mk (hb); clear HO0_0; clear BK1101; clear HK; clear HB; have HO0_0 := n0_; have BK1101 := n1_; have HK := n2_; have HB := n3_; clear n0_ n1_ n2_ n3_; (try clear hb); (try clear hkp); (try clear hy0)))
 go_ret
 exact ⟨by first | rfl | (simp [errW_none, errW_some] <;> rfl) | (simp [*, errW_none, errW_some] <;> rfl), by (with_reducible repeat (first | apply Kd.R_alloc | apply Kd.R_drewN | apply Kd.R_drew)); exact HO0_0.out, by repeat (first | (with_reducible first | exact HB.out | apply below_alloc | apply pw_below_drewN | apply below_drew1 | refine below_set ?_ GE1101.out) | exact HB.out), by repeat (first | (with_reducible first | exact HK.out | apply Kept.alloc | apply Kept.drewN | apply Kept.drew | refine Kept.setCell ?_ (.inr GW1101.out) _) | exact HK.out)⟩
theorem markFeed_ev (l : List Int) (n : Int) (o : Bool) (fc fa : Int) (a : Int) (h0 : 0 ≤ a) (h1 : a ≤ 1125899906842624) (hl : l.length ≤ 1048576) : Ev (fun k => laws_markFeed.f k l n o fc fa a) (a + l.length, risingB a l.length) := by
 unfold laws_markFeed.f
 exact Ev.bind (laws_markByteS.E l a h0 h1 hl) (Ev.now _)
end Go.Proofs.Ytcjjmfpkhhdmlaa.G

namespace Go.Proofs.Ytcjjmfpkhhdmlaa.G
open Go.RowKit Go.Proofs.YtcjjmfpkhhdmlaaW.PrintWords Go.Proofs.YtcjjmfpkhhdmlaaW.PrintLast Go.Proofs.YtcjjmfpkhhdmlaaW.PrintMore
attribute [local go_sem] max2_int min2_int max_two min_two max_three min_three max_four min_four   -- for this text's walks alone
/-! ### laws_heldByteS: function 136 -/
def laws_heldByteS.l0 : Nat → List Int → Int → Int → Option (Int)
 | 0, _, _, _ => none
 | k + 1, x0, x1, x5 => if x5 < (x0.length : Int) then (if 0 ≤ x5 then (if (rd x0 x5) = ((x1) % 256) then (laws_heldByteS.l0 k x0 (wrap64 (x1 + 1)) (wrap64 (x5 + 1))) else (some (-1))) else (none)) else (some x1)
def laws_heldByteS.f (k : Nat) (l0 : List Int) (a1 : Int) : Option (Int) := laws_heldByteS.l0 k l0 a1 0
theorem laws_heldByteS.mono_l : ∀ k, (∀ y0 y1 y2, LeO (laws_heldByteS.l0 k y0 y1 y2) (laws_heldByteS.l0 (k + 1) y0 y1 y2))
 | 0 => fun _ _ _ r h => by simp [laws_heldByteS.l0] at h
 | k + 1 => by
  have ih0 := laws_heldByteS.mono_l k
  ·intro y0 y1 y2
   unfold laws_heldByteS.l0
   repeat' first
   | (with_reducible exact ih0 _ _ _)
   | (with_reducible exact LeO.refl _)
   | (with_reducible exact LeO.none _)
   | (with_reducible refine LeO.ite ?_ ?_)
   | (with_reducible refine LeO.bind ?_ (fun _ => ?_))
   | exact ih0 _ _ _
   | exact LeO.none _
   | refine LeO.ite ?_ ?_
   | refine LeO.bind ?_ (fun _ => ?_)
theorem laws_heldByteS.mono : ∀ a0 a1 k, LeO (laws_heldByteS.f k a0 a1) (laws_heldByteS.f (k + 1) a0 a1) := by
 intro a0 a1 k
 have ih0 := laws_heldByteS.mono_l k
 unfold laws_heldByteS.f
 repeat' first
   | (with_reducible exact ih0 _ _ _)
   | (with_reducible exact LeO.refl _)
   | (with_reducible exact LeO.none _)
   | (with_reducible refine LeO.ite ?_ ?_)
   | (with_reducible refine LeO.bind ?_ (fun _ => ?_))
   | exact ih0 _ _ _
   | exact LeO.none _
   | refine LeO.ite ?_ ?_
   | refine LeO.bind ?_ (fun _ => ?_)
set_option maxHeartbeats 8000000 in
set_option maxRecDepth 100000 in
theorem laws_heldByteS.calls (k : Nat) (A0 : Option Addr) (c0 : Nat) (l0 : List Int) (a1 : Int) (r : Int) (w : World) (hr0 : Kd.C (Kd.int .u8) w A0 l0.length l0) (hc0 : l0.length ≤ c0) (h : laws_heldByteS.f k l0 a1 = some r) :
  Calls Try.prog 136 #[.slice A0 l0.length c0, .int .i64 a1] w fun e w' => e = .returned (.int .i64 r) ∧ Drawn0 w w' := by
 have HR0 := Aside0.mk hr0
 have HC0 := Aside0.mk hc0
 clear hr0 hc0
 have H : (laws_heldByteS.l0 k l0 a1 0) = some r := h
 clear h
 have H' := Aside0.mk H
 clear H
 go_enter Try.func136, Try.ntmps136
 go_wp2
 go_loopg [1, 5] k (fun kq v1 v5 w' => ∃ (x1_1 : Int) (x5_1 : Int), v1 = .int .i64 x1_1 ∧ v5 = .int .i64 x5_1 ∧ Aside0 (laws_heldByteS.l0 kq l0 x1_1 x5_1 = some r) ∧ Aside0 (kq ≤ k) ∧ Drawn0 w w')
 case atStart => exact ⟨(a1), (0), (by first | rfl | (simp; done) | (simp [*]; done)), (by first | rfl | (simp; done) | (simp [*]; done)), H', ⟨Nat.le_refl _⟩, by repeat (first | exact Drawn0.refl _ | apply Drawn0.step)⟩
 case round =>
  clear H'
  try clear c1
  try clear p2
  obtain ⟨x1_1, x5_1, rfl, rfl, HA, HK1, ⟨m1, rfl⟩⟩ := hrel
  cases gk with
  | zero => exact absurd HA.out (by simp [laws_heldByteS.l0])
  | succ k1 =>
   have H := HA.out
   clear HA
   simp only [laws_heldByteS.l0] at H
   by_cases c3 : x5_1 < (l0.length : Int)
   ·rw [if_pos c3] at H
    have c3b0 : decide (x5_1 < (l0.length : Int)) = true := decide_eq_true c3
    clear c3
    by_cases c4 : 0 ≤ x5_1
    ·rw [if_pos c4] at H
     have c4b0 : decide (0 ≤ x5_1) = true := decide_eq_true c4
     clear c4
     by_cases c5 : (rd l0 x5_1) = ((x1_1) % 256)
     ·rw [if_pos c5] at H
      have c5b0 : ((rd l0 x5_1) == ((x1_1) % 256)) = true := beq_iff_eq.mpr c5
      have c5b1 : ((rd l0 x5_1) != ((x1_1) % 256)) = false := bne_eq_false_iff_eq.mpr c5
      clear c5
      have H' := Aside0.mk H
      clear H
      have p1014 : 0 ≤ (x5_1 : Int) := of_decide_eq_true (by first | (with_reducible assumption) | assumption)
      have q1014 : x5_1 < (l0.length : Int) := of_decide_eq_true (by first | (with_reducible assumption) | assumption)
      obtain ⟨ad1014, e1014, hx1014_0⟩ := Kd.at_int HR0.out x5_1 p1014 q1014
      cases e1014
      replace p1014 := eq_true p1014
      replace q1014 := eq_true q1014
      go_wp2
      go_roundg k1
      case measure => have := HK1.out; omega
      case rel => exact ⟨(wrap64 (x1_1 + 1)), (wrap64 (x5_1 + 1)), (by first | rfl | (simp; done) | (simp [*]; done)), (by first | rfl | (simp; done) | (simp [*]; done)), H', ⟨by have := HK1.out; omega⟩, by repeat (first | exact Drawn0.refl _ | apply Drawn0.step)⟩
     ·rw [if_neg c5] at H
      have c5b0 : ((rd l0 x5_1) == ((x1_1) % 256)) = false := beq_eq_false_iff_ne.mpr c5
      have c5b1 : ((rd l0 x5_1) != ((x1_1) % 256)) = true := bne_iff_ne.mpr c5
      obtain rfl := Option.some.inj H
      have p1014 : 0 ≤ (x5_1 : Int) := of_decide_eq_true (by first | (with_reducible assumption) | assumption)
      have q1014 : x5_1 < (l0.length : Int) := of_decide_eq_true (by first | (with_reducible assumption) | assumption)
      obtain ⟨ad1014, e1014, hx1014_0⟩ := Kd.at_int HR0.out x5_1 p1014 q1014
      cases e1014
      replace p1014 := eq_true p1014
      replace q1014 := eq_true q1014
      go_wp2
      go_ret
      exact ⟨by first | rfl | (simp; done) | (simp [*]; done), by repeat (first | exact Drawn0.refl _ | apply Drawn0.step)⟩
    ·rw [if_neg c4] at H
     exact absurd H (by simp)
   ·rw [if_neg c3] at H
    have c3b0 : decide (x5_1 < (l0.length : Int)) = false := decide_eq_false c3
    clear c3
    obtain rfl := Option.some.inj H
    go_wp2
    go_ret
    exact ⟨by first | rfl | (simp; done) | (simp [*]; done), by repeat (first | exact Drawn0.refl _ | apply Drawn0.step)⟩
theorem laws_heldByteS.E (a : Int) (n : Nat) (h0 : 0 ≤ a) (h1 : a ≤ 1125899906842624) (hl : n ≤ 1048576) : Ev (fun k => laws_heldByteS.f k (risingB a n) a) (a + n) := by
 unfold laws_heldByteS.f
 have key : ∀ d i : Nat, n - i = d → i ≤ n → Ev (fun k => laws_heldByteS.l0 k (risingB a n) (a + i) (i : Int)) (a + n) := by
  intro d
  induction d with
  | zero =>
   intro i hd hi
   obtain rfl : i = n := by omega
   exact Ev.step (fun _ => by rw [laws_heldByteS.l0]) (Ev.ng (by simp [risingB_length]) (Ev.now _))
  | succ d ih =>
   intro i hd hi
   have hlt : i < n := by omega
   refine Ev.step (fun _ => by rw [laws_heldByteS.l0]) (Ev.ip (by simp [risingB_length]; omega) (Ev.ip (by omega) (Ev.ip ?_ ?_)))
   ·rw [rd_nat _ i (by rw [risingB_length]; omega)]; simp [risingB, rising_get]
   ·rw [wrap_in (a + i + 1) (by omega) (by omega), wrap_succ i (by omega), show a + i + 1 = a + ((i + 1 : Nat) : Int) by omega]
    exact ih (i + 1) (by omega) (by omega)
 have := key _ 0 rfl (by omega)
 simpa using this
theorem laws_heldByteS.R (k : Nat) (A0 : Option Addr) (n c0 : Nat) (l0 : List Int) (a1 : Int) (r : Int) (w : World) (base : Nat) (ok : Nat → Prop) (hr0 : Kd.R (Kd.int .u8) 5 w base ok (.slice A0 n c0) l0) (h : laws_heldByteS.f k l0 a1 = some r) :
  Calls Try.prog 136 #[.slice A0 n c0, .int .i64 a1] w fun e w' => e = .returned (.int .i64 r) ∧ Drawn0 w w' := by
 obtain ⟨rfl, h1, h2⟩ := Kd.R_reads' hr0
 exact laws_heldByteS.calls k A0 c0 l0 a1 r w h2 h1 h
end Go.Proofs.Ytcjjmfpkhhdmlaa.G

namespace Go.Proofs.Ytcjjmfpkhhdmlaa.G
open Go.RowKit Go.Proofs.YtcjjmfpkhhdmlaaW.PrintWords Go.Proofs.YtcjjmfpkhhdmlaaW.PrintLast Go.Proofs.YtcjjmfpkhhdmlaaW.PrintMore
attribute [local go_sem] max2_int min2_int max_two min_two max_three min_three max_four min_four   -- for this text's walks alone
/-! ### laws_heldFeed: function 72 -/
def laws_heldFeed.f (k : Nat) (l0_0 : List Int) (a0_1 : Int) (a0_2 : Bool) (a0_3 : Int) (a0_4 : Int) (a1 : Int) : Option (Int) := (laws_heldByteS.f k l0_0 a1).bind fun t1105 => (if t1105 < 0 then (some (-1)) else (some t1105))
theorem laws_heldFeed.mono : ∀ a0 a1 a2 a3 a4 a5 k, LeO (laws_heldFeed.f k a0 a1 a2 a3 a4 a5) (laws_heldFeed.f (k + 1) a0 a1 a2 a3 a4 a5) := by
 intro a0 a1 a2 a3 a4 a5 k
 unfold laws_heldFeed.f
 repeat' first
   | (with_reducible exact laws_heldByteS.mono _ _ _)
   | (with_reducible exact LeO.refl _)
   | (with_reducible exact LeO.none _)
   | (with_reducible refine LeO.ite ?_ ?_)
   | (with_reducible refine LeO.bind ?_ (fun _ => ?_))
   | exact laws_heldByteS.mono _ _ _
   | exact LeO.none _
   | refine LeO.ite ?_ ?_
   | refine LeO.bind ?_ (fun _ => ?_)
set_option maxHeartbeats 8000000 in
set_option maxRecDepth 100000 in
theorem laws_heldFeed.calls (k : Nat) (A0_0 : Option Addr) (c0_0 : Nat) (l0_0 : List Int) (a0_1 : Int) (a0_2 : Bool) (a0_3 : Int) (a0_4 : Int) (a1 : Int) (r : Int) (w : World) (hr0_0 : Kd.C (Kd.int .u8) w A0_0 l0_0.length l0_0) (hc0_0 : l0_0.length ≤ c0_0) (h : laws_heldFeed.f k l0_0 a0_1 a0_2 a0_3 a0_4 a1 = some r) :
  Calls Try.prog 72 #[.agg #[.slice A0_0 l0_0.length c0_0, .int .i64 a0_1, .bool a0_2, .int .i64 a0_3, .int .i64 a0_4], .int .i64 a1] w fun e w' => e = .returned (.int .i64 r) ∧ Below w.heap.size w w' := by
 have hu77 := Try.underlying77
 have HR0_0 := Aside0.mk hr0_0
 have HC0_0 := Aside0.mk hc0_0
 clear hr0_0 hc0_0
 have HB := Aside0.mk (Below.refl w.heap.size w)
 have H : ((laws_heldByteS.f k l0_0 a1).bind fun t1105 => (if t1105 < 0 then (some (-1)) else (some t1105))) = some r := h
 clear h
 replace H := Option.bind_eq_some_iff.mp H
 obtain ⟨t1105, A30, H⟩ := H
 replace H : (if t1105 < 0 then (some (-1)) else (some t1105)) = some r := H
 have A3 := Aside0.mk A30
 clear A30
 by_cases c4 : t1105 < 0
 ·rw [if_pos c4] at H
  have c4b0 : decide (t1105 < 0) = true := decide_eq_true c4
  clear c4
  obtain rfl := Option.some.inj H
  go_enter Try.func72, Try.ntmps72
  go_wp2_with (first | ((with_reducible refine gate_dst (N := 2) rfl ?_); refine box_event ?hg (N := 2) ?hd (cs := #[.slice A0_0 l0_0.length c0_0, .int .i64 a0_1, .bool a0_2, .int .i64 a0_3, .int .i64 a0_4]) (t := 77) ?hr ?_; (case hd => rfl); (case hg => rfl); (case hr => first | (go_simp; done) | (go_simp; rfl)); intro gb1104 hg w5 hbox hb; have n0_ := Aside0.mk (below_step (by repeat (first | (with_reducible first | exact HB.out | apply below_alloc | apply pw_below_drewN | apply below_drew1) | exact HB.out)) hb); have n1_ := Aside0.mk (hbox); have n2_ := Aside0.mk ((by rw [hg]; exact (below_size (by repeat (first | (with_reducible first | exact HB.out | apply below_alloc | apply pw_below_drewN | apply below_drew1) | exact HB.out))) : w.heap.size ≤ gb1104)); have n3_ := Aside0.mk ((by rw [hg]; exact (below_size (by repeat (first | (with_reducible first | exact HB.out | apply below_alloc | apply pw_below_drewN | apply below_drew1) | exact HB.out))) : w.heap.size ≤ gb1104)); clear HB; have HB := n0_; have BK1104 := n1_; have GW1104 := n2_; have GE1104 := n3_; clear n0_ n1_ n2_ n3_; clear hb hbox hg; have hcz6_0 : w5.cell? ⟨gb1104, 0, none⟩ = some (.slice A0_0 l0_0.length c0_0) := (blk_cell BK1104.out 0).trans rfl; have hcz6_1 : w5.cell? ⟨gb1104, 1, none⟩ = some (.int .i64 a0_1) := (blk_cell BK1104.out 1).trans rfl; have hcz6_2 : w5.cell? ⟨gb1104, 2, none⟩ = some (.bool a0_2) := (blk_cell BK1104.out 2).trans rfl; have hcz6_3 : w5.cell? ⟨gb1104, 3, none⟩ = some (.int .i64 a0_3) := (blk_cell BK1104.out 3).trans rfl; have hcz6_4 : w5.cell? ⟨gb1104, 4, none⟩ = some (.int .i64 a0_4) := (blk_cell BK1104.out 4).trans rfl; have hfz6_0 := blk_frozen BK1104.out 0; have hfz6_1 := blk_frozen BK1104.out 1; have hfz6_2 := blk_frozen BK1104.out 2; have hfz6_3 := blk_frozen BK1104.out 3; have hfz6_4 := blk_frozen BK1104.out 4) | ((with_reducible refine gate_callee (f := 136) rfl ?_); refine goesL_ (some 8) rfl rfl Try.func136 (by kernel_rfl) rfl #[.slice A0_0 l0_0.length c0_0, .int .i64 a1] rfl (by (try simp only [List.map_toArray, List.map_cons, List.map_nil]); first | done | rfl | (simp only [List.length_drop, List.length_take]; rfl)) ?_; (with_reducible refine (laws_heldByteS.calls k _ _ l0_0 a1 t1105 _ ?side1 ?side2 A3.out).mono ?_); (case side1 => repeat (first | exact (Kd.C_below HR0_0.out HB.out) | (with_reducible refine Kd.C_alloc ?_ _) | (with_reducible refine Kd.C_drewN ?_ _) | (with_reducible refine Kd.C_drew ?_))); (case side2 => exact HC0_0.out); rintro e w' ⟨rfl, ⟨nd, rfl⟩⟩; refine ⟨_, rfl, ?_⟩))
  go_ret
  exact ⟨by first | rfl | (simp [errW_none, errW_some] <;> rfl) | (simp [*, errW_none, errW_some] <;> rfl), by repeat (first | (with_reducible first | exact HB.out | apply below_alloc | apply pw_below_drewN | apply below_drew1 | refine below_set ?_ GE1104.out) | exact HB.out)⟩
 ·rw [if_neg c4] at H
  have c4b0 : decide (t1105 < 0) = false := decide_eq_false c4
  clear c4
  obtain rfl := Option.some.inj H
  go_enter Try.func72, Try.ntmps72
  go_wp2_with (first | ((with_reducible refine gate_dst (N := 2) rfl ?_); refine box_event ?hg (N := 2) ?hd (cs := #[.slice A0_0 l0_0.length c0_0, .int .i64 a0_1, .bool a0_2, .int .i64 a0_3, .int .i64 a0_4]) (t := 77) ?hr ?_; (case hd => rfl); (case hg => rfl); (case hr => first | (go_simp; done) | (go_simp; rfl)); intro gb1104 hg w7 hbox hb; have n0_ := Aside0.mk (below_step (by repeat (first | (with_reducible first | exact HB.out | apply below_alloc | apply pw_below_drewN | apply below_drew1) | exact HB.out)) hb); have n1_ := Aside0.mk (hbox); have n2_ := Aside0.mk ((by rw [hg]; exact (below_size (by repeat (first | (with_reducible first | exact HB.out | apply below_alloc | apply pw_below_drewN | apply below_drew1) | exact HB.out))) : w.heap.size ≤ gb1104)); have n3_ := Aside0.mk ((by rw [hg]; exact (below_size (by repeat (first | (with_reducible first | exact HB.out | apply below_alloc | apply pw_below_drewN | apply below_drew1) | exact HB.out))) : w.heap.size ≤ gb1104)); clear HB; have HB := n0_; have BK1104 := n1_; have GW1104 := n2_; have GE1104 := n3_; clear n0_ n1_ n2_ n3_; clear hb hbox hg; have hcz8_0 : w7.cell? ⟨gb1104, 0, none⟩ = some (.slice A0_0 l0_0.length c0_0) := (blk_cell BK1104.out 0).trans rfl; have hcz8_1 : w7.cell? ⟨gb1104, 1, none⟩ = some (.int .i64 a0_1) := (blk_cell BK1104.out 1).trans rfl; have hcz8_2 : w7.cell? ⟨gb1104, 2, none⟩ = some (.bool a0_2) := (blk_cell BK1104.out 2).trans rfl; have hcz8_3 : w7.cell? ⟨gb1104, 3, none⟩ = some (.int .i64 a0_3) := (blk_cell BK1104.out 3).trans rfl; have hcz8_4 : w7.cell? ⟨gb1104, 4, none⟩ = some (.int .i64 a0_4) := (blk_cell BK1104.out 4).trans rfl; have hfz8_0 := blk_frozen BK1104.out 0; have hfz8_1 := blk_frozen BK1104.out 1; have hfz8_2 := blk_frozen BK1104.out 2; have hfz8_3 := blk_frozen BK1104.out 3; have hfz8_4 := blk_frozen BK1104.out 4) | ((with_reducible refine gate_callee (f := 136) rfl ?_); refine goesL_ (some 8) rfl rfl Try.func136 (by kernel_rfl) rfl #[.slice A0_0 l0_0.length c0_0, .int .i64 a1] rfl (by (try simp only [List.map_toArray, List.map_cons, List.map_nil]); first | done | rfl | (simp only [List.length_drop, List.length_take]; rfl)) ?_; (with_reducible refine (laws_heldByteS.calls k _ _ l0_0 a1 t1105 _ ?side1 ?side2 A3.out).mono ?_); (case side1 => repeat (first | exact (Kd.C_below HR0_0.out HB.out) | (with_reducible refine Kd.C_alloc ?_ _) | (with_reducible refine Kd.C_drewN ?_ _) | (with_reducible refine Kd.C_drew ?_))); (case side2 => exact HC0_0.out); rintro e w' ⟨rfl, ⟨nd, rfl⟩⟩; refine ⟨_, rfl, ?_⟩))
  go_ret
  exact ⟨by first | rfl | (simp [errW_none, errW_some] <;> rfl) | (simp [*, errW_none, errW_some] <;> rfl), by repeat (first | (with_reducible first | exact HB.out | apply below_alloc | apply pw_below_drewN | apply below_drew1 | refine below_set ?_ GE1104.out) | exact HB.out)⟩
theorem heldFeed_ev (m : Nat) (n : Int) (o : Bool) (fc fa : Int) (a : Int) (h0 : 0 ≤ a) (h1 : a ≤ 1125899906842624) (hl : m ≤ 1048576) : Ev (fun k => laws_heldFeed.f k (risingB a m) n o fc fa a) (a + m) := by
 unfold laws_heldFeed.f
 exact Ev.bind (laws_heldByteS.E a m h0 h1 hl) (Ev.ng (by omega) (Ev.now _))
end Go.Proofs.Ytcjjmfpkhhdmlaa.G

namespace Go.Proofs.Ytcjjmfpkhhdmlaa.G
open Go.RowKit Go.Proofs.YtcjjmfpkhhdmlaaW.PrintWords Go.Proofs.YtcjjmfpkhhdmlaaW.PrintLast Go.Proofs.YtcjjmfpkhhdmlaaW.PrintMore
attribute [local go_sem] max2_int min2_int max_two min_two max_three min_three max_four min_four   -- for this text's walks alone
/-! ### laws_FnExactPush: function 13 -/
theorem pushM_len (l : List Int) (n : Int) (o : Bool) (fc fa : Int) (m : List Int) (hl : l.length ≤ 1048576) : (pushM l n o fc fa m).1.length ≤ 1048576 := by
 unfold pushM
 split
 ·simp
 split
 ·exact hl
 split
 ·simp
 ·simp only []; omega
theorem same_Push (l : List Int) (n : Int) (o : Bool) (fc fa : Int) (m : List Int) (hl : l.length ≤ 1048576) (hm : m.length ≤ 1048576) (hw : l.length ≤ 9223372036854775807 ∧ ∀ x ∈ l, (Lit.int .u8 x).wf = true) (hwm : m.length ≤ 9223372036854775807 ∧ ∀ x ∈ m, (Lit.int .u8 x).wf = true) :
  ∃ p p1 p2 p3 p4, Ev (fun k => spec_Push.f k l n o fc fa m) (p, p1, p2, p3, p4) ∧ Ev (fun _ => impl_Push.f l n o fc fa m) (p, p1, p2, p3, p4) ∧ p.length ≤ 1048576 := by
 have hB : isB l = true := by
  unfold isB
  simp only [List.all_eq_true, Bool.and_eq_true, decide_eq_true_eq]
  exact fun x hx => wf_u8 (hw.2 x hx)
 have hBm : isB m = true := by
  unfold isB
  simp only [List.all_eq_true, Bool.and_eq_true, decide_eq_true_eq]
  exact fun x hx => wf_u8 (hwm.2 x hx)
 exact ⟨_, _, _, _, _, spec_Push.ev l n o fc fa m hB hl hBm hm, Ev.c (show impl_Push.f l n o fc fa m = some (pushM l n o fc fa m) by unfold impl_Push.f; rw [if_pos ⟨hB, hl, hBm, hm⟩]), pushM_len l n o fc fa m hl⟩
theorem laws_heldFeed.R (k : Nat) (A0 : Option Addr) (n c0 : Nat) (l0 : List Int) (x0 : Int) (x1 : Bool) (x2 x3 : Int) (a1 r : Int) (w : World) (base : Nat) (ok : Nat → Prop) (hr0 : Kd.R (Kd.int .u8) 5 w base ok (.slice A0 n c0) l0) (h : laws_heldFeed.f k l0 x0 x1 x2 x3 a1 = some r) :
  Calls Try.prog 72 #[.agg #[.slice A0 n c0, .int .i64 x0, .bool x1, .int .i64 x2, .int .i64 x3], .int .i64 a1] w fun e w' => e = .returned (.int .i64 r) ∧ Below w.heap.size w w' := by
 obtain ⟨rfl, h1, h2⟩ := Kd.R_reads' hr0
 exact laws_heldFeed.calls k A0 c0 l0 x0 x1 x2 x3 a1 r w h2 h1 h
set_option maxHeartbeats 20000000 in
set_option maxRecDepth 100000 in
theorem laws_FnExactPush.law (A0 : Option Addr) (c0 : Nat) (l0 : List Int) (a0 : Int) (b0 : Bool) (a1 a2 : Int) (A1 : Option Addr) (c1 : Nat) (l1 : List Int) (w : World) (hr0 : Kd.C (Kd.int .u8) w A0 l0.length l0) (hc0 : l0.length ≤ c0) (hr1 : Kd.C (Kd.int .u8) w A1 l1.length l1) (hc1 : l1.length ≤ c1)
  (hw0 : l0.length ≤ 9223372036854775807 ∧ ∀ x_ ∈ l0, (Lit.int .u8 x_).wf = true) (hw1 : l1.length ≤ 9223372036854775807 ∧ ∀ x_ ∈ l1, (Lit.int .u8 x_).wf = true) :
  Calls Try.prog 13 #[.agg #[.slice A0 l0.length c0, .int .i64 a0, .bool b0, .int .i64 a1, .int .i64 a2], .slice A1 l1.length c1] w fun e w' => e = .returned (.bool true) ∧ Below w.heap.size w w' := by
 have HR0 := Aside0.mk hr0; have HC0 := Aside0.mk hc0; have HW0 := Aside0.mk hw0; clear hr0 hc0 hw0
 have HR1 := Aside0.mk hr1; have HC1 := Aside0.mk hc1; have HW1 := Aside0.mk hw1; clear hr1 hc1 hw1
 by_cases g1 : l1.length > 1048576
 ·have d1_ : decide ((1048576 : Int) < (l1.length : Int)) = true := decide_eq_true (by omega)
  have d2_ : decide (1048576 < l1.length) = true := decide_eq_true g1
  clear g1
  go_enter Try.func13, Try.ntmps13
  go_wp2
  go_ret
  exact ⟨rfl, below_alloc (Below.refl _ _) _⟩
 have dg1 : decide ((1048576 : Int) < (l1.length : Int)) = false := decide_eq_false (by omega)
 have dn1 : decide (1048576 < l1.length) = false := decide_eq_false g1
 have hl1 : l1.length ≤ 1048576 := by omega
 clear g1
 by_cases g0 : 1048576 < l0.length
 ·have hz_ := szFeed_val l0 a0 b0 a1 a2 HW0.out.1; rw [if_pos g0] at hz_; have HZ := Aside0.mk hz_; clear hz_ g0
  have HB := Aside0.mk (Below.refl w.heap.size w)
  go_enter Try.func13, Try.ntmps13
  go_upto_region 1 with (fail)
  have hb_ := below_alloc (Below.refl w.heap.size w) (Obj.cells #[.slice A0 l0.length c0, .int .i64 a0, .bool b0, .int .i64 a1, .int .i64 a2] 73)
  have hq_ := blk_new w (Obj.cells #[.slice A0 l0.length c0, .int .i64 a0, .bool b0, .int .i64 a1, .int .i64 a2] 73)
  generalize w.alloc (Obj.cells #[.slice A0 l0.length c0, .int .i64 a0, .bool b0, .int .i64 a1, .int .i64 a2] 73) = w_1 at hb_ hq_ ⊢
  have N_ := Aside0.mk (show Below w.heap.size w w_1 from Below.trans (by repeat (first | exact HB.out | apply pw_below_drewN | apply below_drew)) (Below.mono hb_ HB.out.size)); clear HB; have HB := N_; clear N_
  have HQ_2 := Aside0.mk (show w_1.heap[w.heap.size]? = some (Obj.cells #[.slice A0 l0.length c0, .int .i64 a0, .bool b0, .int .i64 a1, .int .i64 a2] 73) from hq_)
  have hz_ : w.heap.size + 1 ≤ w_1.heap.size := blk_lt hq_; have HZ_3 := Aside0.mk hz_; clear hz_ hb_ hq_
  have q_4 := blk_cell HQ_2.out 0; simp at q_4
  have q_5 := blk_cell HQ_2.out 1; simp at q_5
  have q_6 := blk_cell HQ_2.out 2; simp at q_6
  have q_7 := blk_cell HQ_2.out 3; simp at q_7
  have q_8 := blk_cell HQ_2.out 4; simp at q_8
  go_wp2_with fail
  clear q_4 q_5 q_6 q_7 q_8
  refine (laws_szFeed.calls _ _ l0 a0 b0 a1 a2 1048576 _ _ (Kd.C_below HR0.out HB.out) HC0.out HZ.out).mono ?_
  rintro e_ w_9 ⟨rfl, hb_⟩
  have hz_ : w_1.heap.size ≤ w_9.heap.size := hb_.size; have HZ_10 := Aside0.mk hz_; clear hz_
  have N_ := Aside0.mk (show Below w.heap.size w w_9 from Below.trans (by repeat (first | exact HB.out | apply pw_below_drewN | apply below_drew)) (Below.mono hb_ HB.out.size)); clear HB; have HB := N_; clear N_
  have N_ := Aside0.mk (show w_9.heap[w.heap.size]? = some (Obj.cells #[.slice A0 l0.length c0, .int .i64 a0, .bool b0, .int .i64 a1, .int .i64 a2] 73) from (hb_.block _ (blk_lt HQ_2.out)).trans HQ_2.out); clear HQ_2; have HQ_2 := N_; clear N_
  clear hb_
  go_wp2
  go_ret
  exact ⟨rfl, HB.out⟩
 have hl0 : l0.length ≤ 1048576 := by omega
 have hz_ := szFeed_val l0 a0 b0 a1 a2 HW0.out.1; rw [if_neg g0] at hz_
 obtain ⟨z0, hz0⟩ : ∃ z0 : Int, z0 = 1048576 - (l0.length : Int) := ⟨_, rfl⟩; rw [← hz0] at hz_; have HZ := Aside0.mk hz_; have z0p : 0 ≤ z0 := (by omega); have dz0 : decide (z0 < 0) = false := decide_eq_false (by omega); clear hz_ g0 hz0
 obtain ⟨kt0, ht0⟩ := (toFeed_ev l0 a0 b0 a1 a2 hl0).rounds; have HT0 := Aside0.mk ht0; clear ht0
 obtain ⟨kt1, ht1⟩ := (laws_toByteS.E l1 hl1).rounds; have HT1 := Aside0.mk ht1; clear ht1
 obtain ⟨r0, r1, r2, r3, r4, hsp_, him_, hrl0⟩ := same_Push l0 a0 b0 a1 a2 l1 hl0 hl1 HW0.out HW1.out
 obtain ⟨ks_, hks_⟩ := hsp_.rounds; obtain ⟨ki_, hki_⟩ := him_.rounds; have HF := Aside0.mk hks_; have HI := Aside0.mk hki_; clear hsp_ him_ hks_ hki_
 have HB := Aside0.mk (Below.refl w.heap.size w)
 go_enter Try.func13, Try.ntmps13
 go_upto_region 1 with (fail)
 have hb_ := below_alloc (Below.refl w.heap.size w) (Obj.cells #[.slice A0 l0.length c0, .int .i64 a0, .bool b0, .int .i64 a1, .int .i64 a2] 73)
 have hq_ := blk_new w (Obj.cells #[.slice A0 l0.length c0, .int .i64 a0, .bool b0, .int .i64 a1, .int .i64 a2] 73)
 generalize w.alloc (Obj.cells #[.slice A0 l0.length c0, .int .i64 a0, .bool b0, .int .i64 a1, .int .i64 a2] 73) = w_11 at hb_ hq_ ⊢
 have N_ := Aside0.mk (show Below w.heap.size w w_11 from Below.trans (by repeat (first | exact HB.out | apply pw_below_drewN | apply below_drew)) (Below.mono hb_ HB.out.size)); clear HB; have HB := N_; clear N_
 have HQ_12 := Aside0.mk (show w_11.heap[w.heap.size]? = some (Obj.cells #[.slice A0 l0.length c0, .int .i64 a0, .bool b0, .int .i64 a1, .int .i64 a2] 73) from hq_)
 have hz_ : w.heap.size + 1 ≤ w_11.heap.size := blk_lt hq_; have HZ_13 := Aside0.mk hz_; clear hz_ hb_ hq_
 have q_14 := blk_cell HQ_12.out 0; simp at q_14
 have q_15 := blk_cell HQ_12.out 1; simp at q_15
 have q_16 := blk_cell HQ_12.out 2; simp at q_16
 have q_17 := blk_cell HQ_12.out 3; simp at q_17
 have q_18 := blk_cell HQ_12.out 4; simp at q_18
 go_wp2_with fail
 clear q_14 q_15 q_16 q_17 q_18
 refine (laws_szFeed.calls _ _ l0 a0 b0 a1 a2 1048576 _ _ (Kd.C_below HR0.out HB.out) HC0.out HZ.out).mono ?_
 rintro e_ w_19 ⟨rfl, hb_⟩
 have hz_ : w_11.heap.size ≤ w_19.heap.size := hb_.size; have HZ_20 := Aside0.mk hz_; clear hz_
 have N_ := Aside0.mk (show Below w.heap.size w w_19 from Below.trans (by repeat (first | exact HB.out | apply pw_below_drewN | apply below_drew)) (Below.mono hb_ HB.out.size)); clear HB; have HB := N_; clear N_
 have N_ := Aside0.mk (show w_19.heap[w.heap.size]? = some (Obj.cells #[.slice A0 l0.length c0, .int .i64 a0, .bool b0, .int .i64 a1, .int .i64 a2] 73) from (hb_.block _ (blk_lt HQ_12.out)).trans HQ_12.out); clear HQ_12; have HQ_12 := N_; clear N_
 clear hb_
 have q_21 := blk_cell HQ_12.out 0; simp at q_21
 have q_22 := blk_cell HQ_12.out 1; simp at q_22
 have q_23 := blk_cell HQ_12.out 2; simp at q_23
 have q_24 := blk_cell HQ_12.out 3; simp at q_24
 have q_25 := blk_cell HQ_12.out 4; simp at q_25
 go_wp2_with fail
 clear q_21 q_22 q_23 q_24 q_25
 refine (laws_toFeed.calls kt0 _ _ l0 a0 b0 a1 a2 l0 a0 b0 a1 a2 _ (by repeat (first | exact Kd.C_below HR0.out HB.out | (with_reducible refine Kd.C_drewN ?_ _) | (with_reducible refine Kd.C_drew ?_))) HC0.out HT0.out).mono ?_
 rintro e_ w_26 ⟨v_27, rfl, ho_, hb_⟩
 obtain ⟨A_28, c_29, e1_⟩ := Kd.R_slice ho_; subst e1_
 have HO_30 := Aside0.mk (Kd.R_mono (ok' := fun k_ => w_19.heap.size ≤ k_ ∧ k_ < w_26.heap.size) (Kd.R_lower (Kd.R_bound ho_) HB.out.size) (fun k_ hk_ => ⟨hk_.2.1, hk_.2.2.1⟩)); clear ho_
 have HS_ : w_19.heap.size ≤ w_26.heap.size := hb_.size
 have HZ_31 := Aside0.mk HS_; clear HS_
 have N_ := Aside0.mk (show Below w.heap.size w w_26 from Below.trans (by repeat (first | exact HB.out | apply pw_below_drewN | apply below_drew)) (Below.mono hb_ HB.out.size)); clear HB; have HB := N_; clear N_
 have N_ := Aside0.mk (show w_26.heap[w.heap.size]? = some (Obj.cells #[.slice A0 l0.length c0, .int .i64 a0, .bool b0, .int .i64 a1, .int .i64 a2] 73) from (hb_.block _ (blk_lt HQ_12.out)).trans HQ_12.out); clear HQ_12; have HQ_12 := N_; clear N_
 clear hb_
 go_wp2_with fail
 refine (laws_toByteS.calls kt1 _ _ l1 l1 _ (by repeat (first | exact Kd.C_below HR1.out HB.out | (with_reducible refine Kd.C_drewN ?_ _) | (with_reducible refine Kd.C_drew ?_))) HC1.out HT1.out).mono ?_
 rintro e_ w_32 ⟨v_33, rfl, ho_, hb_⟩
 obtain ⟨A_34, c_35, e1_⟩ := Kd.R_slice ho_; subst e1_
 have HO_36 := Aside0.mk (Kd.R_mono (ok' := fun k_ => w_26.heap.size ≤ k_ ∧ k_ < w_32.heap.size) (Kd.R_lower (Kd.R_bound ho_) HB.out.size) (fun k_ hk_ => ⟨hk_.2.1, hk_.2.2.1⟩)); clear ho_
 have HS_ : w_26.heap.size ≤ w_32.heap.size := hb_.size
 have HZ_37 := Aside0.mk HS_; clear HS_
 have N_ := Aside0.mk (Kd.R_below (by repeat (first | exact HO_30.out | (with_reducible refine Kd.R_drewN ?_ _) | (with_reducible refine Kd.R_drew ?_))) hb_); clear HO_30; have HO_30 := N_; clear N_
 have N_ := Aside0.mk (show Below w.heap.size w w_32 from Below.trans (by repeat (first | exact HB.out | apply pw_below_drewN | apply below_drew)) (Below.mono hb_ HB.out.size)); clear HB; have HB := N_; clear N_
 have N_ := Aside0.mk (show w_32.heap[w.heap.size]? = some (Obj.cells #[.slice A0 l0.length c0, .int .i64 a0, .bool b0, .int .i64 a1, .int .i64 a2] 73) from (hb_.block _ (blk_lt HQ_12.out)).trans HQ_12.out); clear HQ_12; have HQ_12 := N_; clear N_
 clear hb_
 go_wp2_with fail
 refine (spec_Push.calls ks_ _ _ l0 a0 b0 a1 a2 _ _ l1 r0 r1 r2 r3 r4 _ (by repeat (first | exact (Kd.R_reads' HO_30.out).2.2 | (with_reducible refine Kd.C_drewN ?_ _) | (with_reducible refine Kd.C_drew ?_))) (Kd.R_reads' HO_30.out).2.1 (by repeat (first | exact (Kd.R_reads' HO_36.out).2.2 | (with_reducible refine Kd.C_drewN ?_ _) | (with_reducible refine Kd.C_drew ?_))) (Kd.R_reads' HO_36.out).2.1 HF.out).mono ?_
 rintro e_ w_38 ⟨v_39, rfl, ho_, hb_⟩
 obtain ⟨A_40, c_41, e1_⟩ := Kd.R_slice ho_; subst e1_
 have HO_42 := Aside0.mk (Kd.R_mono (ok' := fun k_ => w_32.heap.size ≤ k_ ∧ k_ < w_38.heap.size) (Kd.R_lower (Kd.R_bound ho_) HB.out.size) (fun k_ hk_ => ⟨hk_.2.1, hk_.2.2.1⟩)); clear ho_
 have HS_ : w_32.heap.size ≤ w_38.heap.size := hb_.size
 have HZ_43 := Aside0.mk HS_; clear HS_
 have N_ := Aside0.mk (Kd.R_below (by repeat (first | exact HO_30.out | (with_reducible refine Kd.R_drewN ?_ _) | (with_reducible refine Kd.R_drew ?_))) hb_); clear HO_30; have HO_30 := N_; clear N_
 have N_ := Aside0.mk (Kd.R_below (by repeat (first | exact HO_36.out | (with_reducible refine Kd.R_drewN ?_ _) | (with_reducible refine Kd.R_drew ?_))) hb_); clear HO_36; have HO_36 := N_; clear N_
 have N_ := Aside0.mk (show Below w.heap.size w w_38 from Below.trans (by repeat (first | exact HB.out | apply pw_below_drewN | apply below_drew)) (Below.mono hb_ HB.out.size)); clear HB; have HB := N_; clear N_
 have N_ := Aside0.mk (show w_38.heap[w.heap.size]? = some (Obj.cells #[.slice A0 l0.length c0, .int .i64 a0, .bool b0, .int .i64 a1, .int .i64 a2] 73) from (hb_.block _ (blk_lt HQ_12.out)).trans HQ_12.out); clear HQ_12; have HQ_12 := N_; clear N_
 clear hb_
 go_upto_region 8 with (fail)
 have hb_ := below_alloc (Below.refl w_38.heap.size w_38) (Obj.cells #[.slice A_40 r0.length c_41, .int .i64 r1, .bool r2, .int .i64 r3, .int .i64 r4] 77)
 have hq_ := blk_new w_38 (Obj.cells #[.slice A_40 r0.length c_41, .int .i64 r1, .bool r2, .int .i64 r3, .int .i64 r4] 77)
 generalize w_38.alloc (Obj.cells #[.slice A_40 r0.length c_41, .int .i64 r1, .bool r2, .int .i64 r3, .int .i64 r4] 77) = w_44 at hb_ hq_ ⊢
 have N_ := Aside0.mk (Kd.R_below (by repeat (first | exact HO_42.out | (with_reducible refine Kd.R_drewN ?_ _) | (with_reducible refine Kd.R_drew ?_))) hb_); clear HO_42; have HO_42 := N_; clear N_
 have N_ := Aside0.mk (show Below w.heap.size w w_44 from Below.trans (by repeat (first | exact HB.out | apply pw_below_drewN | apply below_drew)) (Below.mono hb_ HB.out.size)); clear HB; have HB := N_; clear N_
 have N_ := Aside0.mk (show w_44.heap[w.heap.size]? = some (Obj.cells #[.slice A0 l0.length c0, .int .i64 a0, .bool b0, .int .i64 a1, .int .i64 a2] 73) from (hb_.block _ (blk_lt HQ_12.out)).trans HQ_12.out); clear HQ_12; have HQ_12 := N_; clear N_
 have HQ_45 := Aside0.mk (show w_44.heap[w_38.heap.size]? = some (Obj.cells #[.slice A_40 r0.length c_41, .int .i64 r1, .bool r2, .int .i64 r3, .int .i64 r4] 77) from hq_)
 have hz_ : w_38.heap.size + 1 ≤ w_44.heap.size := blk_lt hq_; have HZ_46 := Aside0.mk hz_; clear hz_ hb_ hq_
 have q_47 := blk_cell HQ_12.out 0; simp at q_47
 have q_48 := blk_cell HQ_12.out 1; simp at q_48
 have q_49 := blk_cell HQ_12.out 2; simp at q_49
 have q_50 := blk_cell HQ_12.out 3; simp at q_50
 have q_51 := blk_cell HQ_12.out 4; simp at q_51
 go_wp2_with fail
 clear q_47 q_48 q_49 q_50 q_51
 refine (laws_toFeed.calls kt0 _ _ l0 a0 b0 a1 a2 l0 a0 b0 a1 a2 _ (by repeat (first | exact Kd.C_below HR0.out HB.out | (with_reducible refine Kd.C_drewN ?_ _) | (with_reducible refine Kd.C_drew ?_))) HC0.out HT0.out).mono ?_
 rintro e_ w_52 ⟨v_53, rfl, ho_, hb_⟩
 obtain ⟨A_54, c_55, e1_⟩ := Kd.R_slice ho_; subst e1_
 have HO_56 := Aside0.mk (Kd.R_mono (ok' := fun k_ => w_44.heap.size ≤ k_ ∧ k_ < w_52.heap.size) (Kd.R_lower (Kd.R_bound ho_) HB.out.size) (fun k_ hk_ => ⟨hk_.2.1, hk_.2.2.1⟩)); clear ho_
 have HS_ : w_44.heap.size ≤ w_52.heap.size := hb_.size
 have HZ_57 := Aside0.mk HS_; clear HS_
 have N_ := Aside0.mk (Kd.R_below (by repeat (first | exact HO_42.out | (with_reducible refine Kd.R_drewN ?_ _) | (with_reducible refine Kd.R_drew ?_))) hb_); clear HO_42; have HO_42 := N_; clear N_
 have N_ := Aside0.mk (show Below w.heap.size w w_52 from Below.trans (by repeat (first | exact HB.out | apply pw_below_drewN | apply below_drew)) (Below.mono hb_ HB.out.size)); clear HB; have HB := N_; clear N_
 have N_ := Aside0.mk (show w_52.heap[w.heap.size]? = some (Obj.cells #[.slice A0 l0.length c0, .int .i64 a0, .bool b0, .int .i64 a1, .int .i64 a2] 73) from (hb_.block _ (blk_lt HQ_12.out)).trans HQ_12.out); clear HQ_12; have HQ_12 := N_; clear N_
 have N_ := Aside0.mk (show w_52.heap[w_38.heap.size]? = some (Obj.cells #[.slice A_40 r0.length c_41, .int .i64 r1, .bool r2, .int .i64 r3, .int .i64 r4] 77) from (hb_.block _ (blk_lt HQ_45.out)).trans HQ_45.out); clear HQ_45; have HQ_45 := N_; clear N_
 clear hb_
 go_upto_region 9 with (fail)
 have hb_ := below_alloc (Below.refl w_52.heap.size w_52) (Obj.cells #[.slice A_54 l0.length c_55, .int .i64 a0, .bool b0, .int .i64 a1, .int .i64 a2] 77)
 have hq_ := blk_new w_52 (Obj.cells #[.slice A_54 l0.length c_55, .int .i64 a0, .bool b0, .int .i64 a1, .int .i64 a2] 77)
 generalize w_52.alloc (Obj.cells #[.slice A_54 l0.length c_55, .int .i64 a0, .bool b0, .int .i64 a1, .int .i64 a2] 77) = w_58 at hb_ hq_ ⊢
 have N_ := Aside0.mk (Kd.R_below (by repeat (first | exact HO_42.out | (with_reducible refine Kd.R_drewN ?_ _) | (with_reducible refine Kd.R_drew ?_))) hb_); clear HO_42; have HO_42 := N_; clear N_
 have N_ := Aside0.mk (Kd.R_below (by repeat (first | exact HO_56.out | (with_reducible refine Kd.R_drewN ?_ _) | (with_reducible refine Kd.R_drew ?_))) hb_); clear HO_56; have HO_56 := N_; clear N_
 have N_ := Aside0.mk (show Below w.heap.size w w_58 from Below.trans (by repeat (first | exact HB.out | apply pw_below_drewN | apply below_drew)) (Below.mono hb_ HB.out.size)); clear HB; have HB := N_; clear N_
 have N_ := Aside0.mk (show w_58.heap[w.heap.size]? = some (Obj.cells #[.slice A0 l0.length c0, .int .i64 a0, .bool b0, .int .i64 a1, .int .i64 a2] 73) from (hb_.block _ (blk_lt HQ_12.out)).trans HQ_12.out); clear HQ_12; have HQ_12 := N_; clear N_
 have N_ := Aside0.mk (show w_58.heap[w_38.heap.size]? = some (Obj.cells #[.slice A_40 r0.length c_41, .int .i64 r1, .bool r2, .int .i64 r3, .int .i64 r4] 77) from (hb_.block _ (blk_lt HQ_45.out)).trans HQ_45.out); clear HQ_45; have HQ_45 := N_; clear N_
 have HQ_59 := Aside0.mk (show w_58.heap[w_52.heap.size]? = some (Obj.cells #[.slice A_54 l0.length c_55, .int .i64 a0, .bool b0, .int .i64 a1, .int .i64 a2] 77) from hq_)
 have hz_ : w_52.heap.size + 1 ≤ w_58.heap.size := blk_lt hq_; have HZ_60 := Aside0.mk hz_; clear hz_ hb_ hq_
 go_wp2_with fail
 refine (laws_toByteS.calls kt1 _ _ l1 l1 _ (by repeat (first | exact Kd.C_below HR1.out HB.out | (with_reducible refine Kd.C_drewN ?_ _) | (with_reducible refine Kd.C_drew ?_))) HC1.out HT1.out).mono ?_
 rintro e_ w_61 ⟨v_62, rfl, ho_, hb_⟩
 obtain ⟨A_63, c_64, e1_⟩ := Kd.R_slice ho_; subst e1_
 have HO_65 := Aside0.mk (Kd.R_mono (ok' := fun k_ => w_58.heap.size ≤ k_ ∧ k_ < w_61.heap.size) (Kd.R_lower (Kd.R_bound ho_) HB.out.size) (fun k_ hk_ => ⟨hk_.2.1, hk_.2.2.1⟩)); clear ho_
 have HS_ : w_58.heap.size ≤ w_61.heap.size := hb_.size
 have HZ_66 := Aside0.mk HS_; clear HS_
 have N_ := Aside0.mk (Kd.R_below (by repeat (first | exact HO_42.out | (with_reducible refine Kd.R_drewN ?_ _) | (with_reducible refine Kd.R_drew ?_))) hb_); clear HO_42; have HO_42 := N_; clear N_
 have N_ := Aside0.mk (Kd.R_below (by repeat (first | exact HO_56.out | (with_reducible refine Kd.R_drewN ?_ _) | (with_reducible refine Kd.R_drew ?_))) hb_); clear HO_56; have HO_56 := N_; clear N_
 have N_ := Aside0.mk (show Below w.heap.size w w_61 from Below.trans (by repeat (first | exact HB.out | apply pw_below_drewN | apply below_drew)) (Below.mono hb_ HB.out.size)); clear HB; have HB := N_; clear N_
 have N_ := Aside0.mk (show w_61.heap[w.heap.size]? = some (Obj.cells #[.slice A0 l0.length c0, .int .i64 a0, .bool b0, .int .i64 a1, .int .i64 a2] 73) from (hb_.block _ (blk_lt HQ_12.out)).trans HQ_12.out); clear HQ_12; have HQ_12 := N_; clear N_
 have N_ := Aside0.mk (show w_61.heap[w_38.heap.size]? = some (Obj.cells #[.slice A_40 r0.length c_41, .int .i64 r1, .bool r2, .int .i64 r3, .int .i64 r4] 77) from (hb_.block _ (blk_lt HQ_45.out)).trans HQ_45.out); clear HQ_45; have HQ_45 := N_; clear N_
 have N_ := Aside0.mk (show w_61.heap[w_52.heap.size]? = some (Obj.cells #[.slice A_54 l0.length c_55, .int .i64 a0, .bool b0, .int .i64 a1, .int .i64 a2] 77) from (hb_.block _ (blk_lt HQ_59.out)).trans HQ_59.out); clear HQ_59; have HQ_59 := N_; clear N_
 clear hb_
 have q_67 := blk_cell HQ_59.out 0; simp at q_67
 have q_68 := blk_cell HQ_59.out 1; simp at q_68
 have q_69 := blk_cell HQ_59.out 2; simp at q_69
 have q_70 := blk_cell HQ_59.out 3; simp at q_70
 have q_71 := blk_cell HQ_59.out 4; simp at q_71
 go_wp2_with fail
 clear q_67 q_68 q_69 q_70 q_71
 refine (impl_Push.calls  _ _ l0 a0 b0 a1 a2 _ _ l1 r0 r1 r2 r3 r4 _ (by repeat (first | exact (Kd.R_reads' HO_56.out).2.2 | (with_reducible refine Kd.C_drewN ?_ _) | (with_reducible refine Kd.C_drew ?_))) (Kd.R_reads' HO_56.out).2.1 (by repeat (first | exact (Kd.R_reads' HO_65.out).2.2 | (with_reducible refine Kd.C_drewN ?_ _) | (with_reducible refine Kd.C_drew ?_))) (Kd.R_reads' HO_65.out).2.1 HI.out).mono ?_
 rintro e_ w_72 ⟨v_73, rfl, ho_, hb_⟩
 obtain ⟨A_74, c_75, e1_⟩ := Kd.R_slice ho_; subst e1_
 have HO_76 := Aside0.mk (Kd.R_mono (ok' := fun k_ => w_61.heap.size ≤ k_ ∧ k_ < w_72.heap.size) (Kd.R_lower (Kd.R_bound ho_) HB.out.size) (fun k_ hk_ => ⟨hk_.2.1, hk_.2.2.1⟩)); clear ho_
 have HS_ : w_61.heap.size ≤ w_72.heap.size := hb_.size
 have HZ_77 := Aside0.mk HS_; clear HS_
 have N_ := Aside0.mk (Kd.R_below (by repeat (first | exact HO_42.out | (with_reducible refine Kd.R_drewN ?_ _) | (with_reducible refine Kd.R_drew ?_))) hb_); clear HO_42; have HO_42 := N_; clear N_
 have N_ := Aside0.mk (Kd.R_below (by repeat (first | exact HO_56.out | (with_reducible refine Kd.R_drewN ?_ _) | (with_reducible refine Kd.R_drew ?_))) hb_); clear HO_56; have HO_56 := N_; clear N_
 have N_ := Aside0.mk (Kd.R_below (by repeat (first | exact HO_65.out | (with_reducible refine Kd.R_drewN ?_ _) | (with_reducible refine Kd.R_drew ?_))) hb_); clear HO_65; have HO_65 := N_; clear N_
 have N_ := Aside0.mk (show Below w.heap.size w w_72 from Below.trans (by repeat (first | exact HB.out | apply pw_below_drewN | apply below_drew)) (Below.mono hb_ HB.out.size)); clear HB; have HB := N_; clear N_
 have N_ := Aside0.mk (show w_72.heap[w.heap.size]? = some (Obj.cells #[.slice A0 l0.length c0, .int .i64 a0, .bool b0, .int .i64 a1, .int .i64 a2] 73) from (hb_.block _ (blk_lt HQ_12.out)).trans HQ_12.out); clear HQ_12; have HQ_12 := N_; clear N_
 have N_ := Aside0.mk (show w_72.heap[w_38.heap.size]? = some (Obj.cells #[.slice A_40 r0.length c_41, .int .i64 r1, .bool r2, .int .i64 r3, .int .i64 r4] 77) from (hb_.block _ (blk_lt HQ_45.out)).trans HQ_45.out); clear HQ_45; have HQ_45 := N_; clear N_
 have N_ := Aside0.mk (show w_72.heap[w_52.heap.size]? = some (Obj.cells #[.slice A_54 l0.length c_55, .int .i64 a0, .bool b0, .int .i64 a1, .int .i64 a2] 77) from (hb_.block _ (blk_lt HQ_59.out)).trans HQ_59.out); clear HQ_59; have HQ_59 := N_; clear N_
 clear hb_
 go_upto_region 11 with (fail)
 have hb_ := below_alloc (Below.refl w_72.heap.size w_72) (Obj.cells #[.slice A_74 r0.length c_75, .int .i64 r1, .bool r2, .int .i64 r3, .int .i64 r4] 77)
 have hq_ := blk_new w_72 (Obj.cells #[.slice A_74 r0.length c_75, .int .i64 r1, .bool r2, .int .i64 r3, .int .i64 r4] 77)
 generalize w_72.alloc (Obj.cells #[.slice A_74 r0.length c_75, .int .i64 r1, .bool r2, .int .i64 r3, .int .i64 r4] 77) = w_78 at hb_ hq_ ⊢
 have N_ := Aside0.mk (Kd.R_below (by repeat (first | exact HO_42.out | (with_reducible refine Kd.R_drewN ?_ _) | (with_reducible refine Kd.R_drew ?_))) hb_); clear HO_42; have HO_42 := N_; clear N_
 have N_ := Aside0.mk (Kd.R_below (by repeat (first | exact HO_56.out | (with_reducible refine Kd.R_drewN ?_ _) | (with_reducible refine Kd.R_drew ?_))) hb_); clear HO_56; have HO_56 := N_; clear N_
 have N_ := Aside0.mk (Kd.R_below (by repeat (first | exact HO_65.out | (with_reducible refine Kd.R_drewN ?_ _) | (with_reducible refine Kd.R_drew ?_))) hb_); clear HO_65; have HO_65 := N_; clear N_
 have N_ := Aside0.mk (Kd.R_below (by repeat (first | exact HO_76.out | (with_reducible refine Kd.R_drewN ?_ _) | (with_reducible refine Kd.R_drew ?_))) hb_); clear HO_76; have HO_76 := N_; clear N_
 have N_ := Aside0.mk (show Below w.heap.size w w_78 from Below.trans (by repeat (first | exact HB.out | apply pw_below_drewN | apply below_drew)) (Below.mono hb_ HB.out.size)); clear HB; have HB := N_; clear N_
 have N_ := Aside0.mk (show w_78.heap[w.heap.size]? = some (Obj.cells #[.slice A0 l0.length c0, .int .i64 a0, .bool b0, .int .i64 a1, .int .i64 a2] 73) from (hb_.block _ (blk_lt HQ_12.out)).trans HQ_12.out); clear HQ_12; have HQ_12 := N_; clear N_
 have N_ := Aside0.mk (show w_78.heap[w_38.heap.size]? = some (Obj.cells #[.slice A_40 r0.length c_41, .int .i64 r1, .bool r2, .int .i64 r3, .int .i64 r4] 77) from (hb_.block _ (blk_lt HQ_45.out)).trans HQ_45.out); clear HQ_45; have HQ_45 := N_; clear N_
 have N_ := Aside0.mk (show w_78.heap[w_52.heap.size]? = some (Obj.cells #[.slice A_54 l0.length c_55, .int .i64 a0, .bool b0, .int .i64 a1, .int .i64 a2] 77) from (hb_.block _ (blk_lt HQ_59.out)).trans HQ_59.out); clear HQ_59; have HQ_59 := N_; clear N_
 have HQ_79 := Aside0.mk (show w_78.heap[w_72.heap.size]? = some (Obj.cells #[.slice A_74 r0.length c_75, .int .i64 r1, .bool r2, .int .i64 r3, .int .i64 r4] 77) from hq_)
 have hz_ : w_72.heap.size + 1 ≤ w_78.heap.size := blk_lt hq_; have HZ_80 := Aside0.mk hz_; clear hz_ hb_ hq_
 have q_81 := blk_cell HQ_79.out 0; simp at q_81
 have q_82 := blk_cell HQ_79.out 1; simp at q_82
 have q_83 := blk_cell HQ_79.out 2; simp at q_83
 have q_84 := blk_cell HQ_79.out 3; simp at q_84
 have q_85 := blk_cell HQ_79.out 4; simp at q_85
 have q_86 := blk_cell HQ_45.out 0; simp at q_86
 have q_87 := blk_cell HQ_45.out 1; simp at q_87
 have q_88 := blk_cell HQ_45.out 2; simp at q_88
 have q_89 := blk_cell HQ_45.out 3; simp at q_89
 have q_90 := blk_cell HQ_45.out 4; simp at q_90
 obtain ⟨ke_91, he_92⟩ := (eqFeed_ev r0 r1 r2 r3 r4 (by omega)).rounds; replace he_92 := Aside0.mk he_92
 go_wp2_with fail
 clear q_81 q_82 q_83 q_84 q_85 q_86 q_87 q_88 q_89 q_90
 refine (laws_eqFeed.calls ke_91 _ _ r0 r1 r2 r3 r4 _ _ r0 r1 r2 r3 r4 true _ (by repeat (first | exact (Kd.R_reads' HO_76.out).2.2 | (with_reducible refine Kd.C_drewN ?_ _) | (with_reducible refine Kd.C_drew ?_))) (Kd.R_reads' HO_76.out).2.1 (by repeat (first | exact (Kd.R_reads' HO_42.out).2.2 | (with_reducible refine Kd.C_drewN ?_ _) | (with_reducible refine Kd.C_drew ?_))) (Kd.R_reads' HO_42.out).2.1 he_92.out).mono ?_
 rintro e_ w_93 ⟨rfl, hb_⟩
 have hz_ : w_78.heap.size ≤ w_93.heap.size := hb_.size; have HZ_94 := Aside0.mk hz_; clear hz_
 have N_ := Aside0.mk (Kd.R_below (by repeat (first | exact HO_42.out | (with_reducible refine Kd.R_drewN ?_ _) | (with_reducible refine Kd.R_drew ?_))) hb_); clear HO_42; have HO_42 := N_; clear N_
 have N_ := Aside0.mk (Kd.R_below (by repeat (first | exact HO_56.out | (with_reducible refine Kd.R_drewN ?_ _) | (with_reducible refine Kd.R_drew ?_))) hb_); clear HO_56; have HO_56 := N_; clear N_
 have N_ := Aside0.mk (Kd.R_below (by repeat (first | exact HO_65.out | (with_reducible refine Kd.R_drewN ?_ _) | (with_reducible refine Kd.R_drew ?_))) hb_); clear HO_65; have HO_65 := N_; clear N_
 have N_ := Aside0.mk (Kd.R_below (by repeat (first | exact HO_76.out | (with_reducible refine Kd.R_drewN ?_ _) | (with_reducible refine Kd.R_drew ?_))) hb_); clear HO_76; have HO_76 := N_; clear N_
 have N_ := Aside0.mk (show Below w.heap.size w w_93 from Below.trans (by repeat (first | exact HB.out | apply pw_below_drewN | apply below_drew)) (Below.mono hb_ HB.out.size)); clear HB; have HB := N_; clear N_
 have N_ := Aside0.mk (show w_93.heap[w.heap.size]? = some (Obj.cells #[.slice A0 l0.length c0, .int .i64 a0, .bool b0, .int .i64 a1, .int .i64 a2] 73) from (hb_.block _ (blk_lt HQ_12.out)).trans HQ_12.out); clear HQ_12; have HQ_12 := N_; clear N_
 have N_ := Aside0.mk (show w_93.heap[w_38.heap.size]? = some (Obj.cells #[.slice A_40 r0.length c_41, .int .i64 r1, .bool r2, .int .i64 r3, .int .i64 r4] 77) from (hb_.block _ (blk_lt HQ_45.out)).trans HQ_45.out); clear HQ_45; have HQ_45 := N_; clear N_
 have N_ := Aside0.mk (show w_93.heap[w_52.heap.size]? = some (Obj.cells #[.slice A_54 l0.length c_55, .int .i64 a0, .bool b0, .int .i64 a1, .int .i64 a2] 77) from (hb_.block _ (blk_lt HQ_59.out)).trans HQ_59.out); clear HQ_59; have HQ_59 := N_; clear N_
 have N_ := Aside0.mk (show w_93.heap[w_72.heap.size]? = some (Obj.cells #[.slice A_74 r0.length c_75, .int .i64 r1, .bool r2, .int .i64 r3, .int .i64 r4] 77) from (hb_.block _ (blk_lt HQ_79.out)).trans HQ_79.out); clear HQ_79; have HQ_79 := N_; clear N_
 clear hb_
 have q_95 := blk_cell HQ_12.out 0; simp at q_95
 have q_96 := blk_cell HQ_12.out 1; simp at q_96
 have q_97 := blk_cell HQ_12.out 2; simp at q_97
 have q_98 := blk_cell HQ_12.out 3; simp at q_98
 have q_99 := blk_cell HQ_12.out 4; simp at q_99
 have q_100 := blk_cell HQ_59.out 0; simp at q_100
 have q_101 := blk_cell HQ_59.out 1; simp at q_101
 have q_102 := blk_cell HQ_59.out 2; simp at q_102
 have q_103 := blk_cell HQ_59.out 3; simp at q_103
 have q_104 := blk_cell HQ_59.out 4; simp at q_104
 go_upto_region 13 with (fail)
 clear q_95 q_96 q_97 q_98 q_99 q_100 q_101 q_102 q_103 q_104
 have KS_105 := Aside0.mk (show ∀ w' : World, Below w_93.heap.size w_93 w' → w'.cell? ⟨w_52.heap.size, 0, none⟩ = some (.slice A_54 l0.length c_55) ∧ w'.cell? ⟨w_52.heap.size, 1, none⟩ = some (.int .i64 a0) ∧ w'.cell? ⟨w_52.heap.size, 2, none⟩ = some (.bool b0) ∧ w'.cell? ⟨w_52.heap.size, 3, none⟩ = some (.int .i64 a1) ∧ w'.cell? ⟨w_52.heap.size, 4, none⟩ = some (.int .i64 a2) ∧ w'.cell? ⟨w.heap.size, 0, none⟩ = some (.slice A0 l0.length c0) ∧ w'.cell? ⟨w.heap.size, 1, none⟩ = some (.int .i64 a0) ∧ w'.cell? ⟨w.heap.size, 2, none⟩ = some (.bool b0) ∧ w'.cell? ⟨w.heap.size, 3, none⟩ = some (.int .i64 a1) ∧ w'.cell? ⟨w.heap.size, 4, none⟩ = some (.int .i64 a2) from fun w' hb_ => ⟨(by have q_ := blk_cell (blk_below HQ_59.out hb_) 0; simpa using q_), (by have q_ := blk_cell (blk_below HQ_59.out hb_) 1; simpa using q_), (by have q_ := blk_cell (blk_below HQ_59.out hb_) 2; simpa using q_), (by have q_ := blk_cell (blk_below HQ_59.out hb_) 3; simpa using q_), (by have q_ := blk_cell (blk_below HQ_59.out hb_) 4; simpa using q_), (by have q_ := blk_cell (blk_below HQ_12.out hb_) 0; simpa using q_), (by have q_ := blk_cell (blk_below HQ_12.out hb_) 1; simpa using q_), (by have q_ := blk_cell (blk_below HQ_12.out hb_) 2; simpa using q_), (by have q_ := blk_cell (blk_below HQ_12.out hb_) 3; simpa using q_), (by have q_ := blk_cell (blk_below HQ_12.out hb_) 4; simpa using q_)⟩)
 have HX_106 := Aside0.mk (Below.refl w_93.heap.size w_93)
 obtain ⟨ke_113, he_114⟩ := (eqFeed_ev l0 a0 b0 a1 a2 (by omega)).rounds; replace he_114 := Aside0.mk he_114
 go_region_held3 (fun w' => w'.cell? ⟨w_52.heap.size, 0, none⟩ = some (.slice A_54 l0.length c_55) ∧ w'.cell? ⟨w_52.heap.size, 1, none⟩ = some (.int .i64 a0) ∧ w'.cell? ⟨w_52.heap.size, 2, none⟩ = some (.bool b0) ∧ w'.cell? ⟨w_52.heap.size, 3, none⟩ = some (.int .i64 a1) ∧ w'.cell? ⟨w_52.heap.size, 4, none⟩ = some (.int .i64 a2) ∧ w'.cell? ⟨w.heap.size, 0, none⟩ = some (.slice A0 l0.length c0) ∧ w'.cell? ⟨w.heap.size, 1, none⟩ = some (.int .i64 a0) ∧ w'.cell? ⟨w.heap.size, 2, none⟩ = some (.bool b0) ∧ w'.cell? ⟨w.heap.size, 3, none⟩ = some (.int .i64 a1) ∧ w'.cell? ⟨w.heap.size, 4, none⟩ = some (.int .i64 a2)) (first | (go_keep; done) | exact KS_105.out _ (by repeat (first | exact Below.refl _ _ | exact HX_106.out | apply below_drew | apply pw_below_drewN))) (first | (go_at_call 66; refine (laws_toFeed.calls kt0 _ _ l0 a0 b0 a1 a2 l0 a0 b0 a1 a2 _ (by repeat (first | exact Kd.C_below HR0.out HB.out | (with_reducible refine Kd.C_drewN ?_ _) | (with_reducible refine Kd.C_drew ?_))) HC0.out HT0.out).mono ?_; rintro e_ w_107 ⟨v_108, rfl, ho_, hb_⟩; obtain ⟨A_109, c_110, e1_⟩ := Kd.R_slice ho_; subst e1_; have HO_111 := Aside0.mk (Kd.R_mono (ok' := fun k_ => w_93.heap.size ≤ k_ ∧ k_ < w_107.heap.size) (Kd.R_lower (Kd.R_bound ho_) HB.out.size) (fun k_ hk_ => ⟨hk_.2.1, hk_.2.2.1⟩)); clear ho_; have HS_ : w_93.heap.size ≤ w_107.heap.size := hb_.size; have HZ_112 := Aside0.mk HS_; clear HS_; have N_ := Aside0.mk (Kd.R_below (by repeat (first | exact HO_42.out | (with_reducible refine Kd.R_drewN ?_ _) | (with_reducible refine Kd.R_drew ?_))) hb_); clear HO_42; have HO_42 := N_; clear N_; have N_ := Aside0.mk (Kd.R_below (by repeat (first | exact HO_56.out | (with_reducible refine Kd.R_drewN ?_ _) | (with_reducible refine Kd.R_drew ?_))) hb_); clear HO_56; have HO_56 := N_; clear N_; have N_ := Aside0.mk (Kd.R_below (by repeat (first | exact HO_65.out | (with_reducible refine Kd.R_drewN ?_ _) | (with_reducible refine Kd.R_drew ?_))) hb_); clear HO_65; have HO_65 := N_; clear N_; have N_ := Aside0.mk (Kd.R_below (by repeat (first | exact HO_76.out | (with_reducible refine Kd.R_drewN ?_ _) | (with_reducible refine Kd.R_drew ?_))) hb_); clear HO_76; have HO_76 := N_; clear N_; have N_ := Aside0.mk (show Below w.heap.size w w_107 from Below.trans (by repeat (first | exact HB.out | apply pw_below_drewN | apply below_drew)) (Below.mono hb_ HB.out.size)); clear HB; have HB := N_; clear N_; have N_ := Aside0.mk (show w_107.heap[w.heap.size]? = some (Obj.cells #[.slice A0 l0.length c0, .int .i64 a0, .bool b0, .int .i64 a1, .int .i64 a2] 73) from (hb_.block _ (blk_lt HQ_12.out)).trans HQ_12.out); clear HQ_12; have HQ_12 := N_; clear N_; have N_ := Aside0.mk (show w_107.heap[w_38.heap.size]? = some (Obj.cells #[.slice A_40 r0.length c_41, .int .i64 r1, .bool r2, .int .i64 r3, .int .i64 r4] 77) from (hb_.block _ (blk_lt HQ_45.out)).trans HQ_45.out); clear HQ_45; have HQ_45 := N_; clear N_; have N_ := Aside0.mk (show w_107.heap[w_52.heap.size]? = some (Obj.cells #[.slice A_54 l0.length c_55, .int .i64 a0, .bool b0, .int .i64 a1, .int .i64 a2] 77) from (hb_.block _ (blk_lt HQ_59.out)).trans HQ_59.out); clear HQ_59; have HQ_59 := N_; clear N_; have N_ := Aside0.mk (show w_107.heap[w_72.heap.size]? = some (Obj.cells #[.slice A_74 r0.length c_75, .int .i64 r1, .bool r2, .int .i64 r3, .int .i64 r4] 77) from (hb_.block _ (blk_lt HQ_79.out)).trans HQ_79.out); clear HQ_79; have HQ_79 := N_; clear N_; have N_ := Aside0.mk (show Below w_93.heap.size w_93 w_107 from Below.trans (by repeat (first | exact HX_106.out | apply pw_below_drewN | apply below_drew)) (Below.mono hb_ HX_106.out.size)); clear HX_106; have HX_106 := N_; clear N_; clear hb_) | (go_at_call 68; refine (laws_eqFeed.calls ke_113 _ _ l0 a0 b0 a1 a2 _ _ l0 a0 b0 a1 a2 true _ (by repeat (first | exact (Kd.R_reads' HO_56.out).2.2 | (with_reducible refine Kd.C_drewN ?_ _) | (with_reducible refine Kd.C_drew ?_))) (Kd.R_reads' HO_56.out).2.1 (by repeat (first | exact (Kd.R_reads' HO_111.out).2.2 | (with_reducible refine Kd.C_drewN ?_ _) | (with_reducible refine Kd.C_drew ?_))) (Kd.R_reads' HO_111.out).2.1 he_114.out).mono ?_; rintro e_ w_115 ⟨rfl, hb_⟩; have hz_ : w_107.heap.size ≤ w_115.heap.size := hb_.size; have HZ_116 := Aside0.mk hz_; clear hz_; have N_ := Aside0.mk (Kd.R_below (by repeat (first | exact HO_42.out | (with_reducible refine Kd.R_drewN ?_ _) | (with_reducible refine Kd.R_drew ?_))) hb_); clear HO_42; have HO_42 := N_; clear N_; have N_ := Aside0.mk (Kd.R_below (by repeat (first | exact HO_56.out | (with_reducible refine Kd.R_drewN ?_ _) | (with_reducible refine Kd.R_drew ?_))) hb_); clear HO_56; have HO_56 := N_; clear N_; have N_ := Aside0.mk (Kd.R_below (by repeat (first | exact HO_65.out | (with_reducible refine Kd.R_drewN ?_ _) | (with_reducible refine Kd.R_drew ?_))) hb_); clear HO_65; have HO_65 := N_; clear N_; have N_ := Aside0.mk (Kd.R_below (by repeat (first | exact HO_76.out | (with_reducible refine Kd.R_drewN ?_ _) | (with_reducible refine Kd.R_drew ?_))) hb_); clear HO_76; have HO_76 := N_; clear N_; have N_ := Aside0.mk (Kd.R_below (by repeat (first | exact HO_111.out | (with_reducible refine Kd.R_drewN ?_ _) | (with_reducible refine Kd.R_drew ?_))) hb_); clear HO_111; have HO_111 := N_; clear N_; have N_ := Aside0.mk (show Below w.heap.size w w_115 from Below.trans (by repeat (first | exact HB.out | apply pw_below_drewN | apply below_drew)) (Below.mono hb_ HB.out.size)); clear HB; have HB := N_; clear N_; have N_ := Aside0.mk (show w_115.heap[w.heap.size]? = some (Obj.cells #[.slice A0 l0.length c0, .int .i64 a0, .bool b0, .int .i64 a1, .int .i64 a2] 73) from (hb_.block _ (blk_lt HQ_12.out)).trans HQ_12.out); clear HQ_12; have HQ_12 := N_; clear N_; have N_ := Aside0.mk (show w_115.heap[w_38.heap.size]? = some (Obj.cells #[.slice A_40 r0.length c_41, .int .i64 r1, .bool r2, .int .i64 r3, .int .i64 r4] 77) from (hb_.block _ (blk_lt HQ_45.out)).trans HQ_45.out); clear HQ_45; have HQ_45 := N_; clear N_; have N_ := Aside0.mk (show w_115.heap[w_52.heap.size]? = some (Obj.cells #[.slice A_54 l0.length c_55, .int .i64 a0, .bool b0, .int .i64 a1, .int .i64 a2] 77) from (hb_.block _ (blk_lt HQ_59.out)).trans HQ_59.out); clear HQ_59; have HQ_59 := N_; clear N_; have N_ := Aside0.mk (show w_115.heap[w_72.heap.size]? = some (Obj.cells #[.slice A_74 r0.length c_75, .int .i64 r1, .bool r2, .int .i64 r3, .int .i64 r4] 77) from (hb_.block _ (blk_lt HQ_79.out)).trans HQ_79.out); clear HQ_79; have HQ_79 := N_; clear N_; have N_ := Aside0.mk (show Below w_93.heap.size w_93 w_115 from Below.trans (by repeat (first | exact HX_106.out | apply pw_below_drewN | apply below_drew)) (Below.mono hb_ HX_106.out.size)); clear HX_106; have HX_106 := N_; clear N_; clear hb_))
 go_wp2_with fail
 refine (laws_toByteS.calls kt1 _ _ l1 l1 _ (by repeat (first | exact Kd.C_below HR1.out HB.out | (with_reducible refine Kd.C_drewN ?_ _) | (with_reducible refine Kd.C_drew ?_))) HC1.out HT1.out).mono ?_
 rintro e_ w_117 ⟨v_118, rfl, ho_, hb_⟩
 obtain ⟨A_119, c_120, e1_⟩ := Kd.R_slice ho_; subst e1_
 have HO_121 := Aside0.mk (Kd.R_mono (ok' := fun k_ => w_115.heap.size ≤ k_ ∧ k_ < w_117.heap.size) (Kd.R_lower (Kd.R_bound ho_) HB.out.size) (fun k_ hk_ => ⟨hk_.2.1, hk_.2.2.1⟩)); clear ho_
 have HS_ : w_115.heap.size ≤ w_117.heap.size := hb_.size
 have HZ_122 := Aside0.mk HS_; clear HS_
 have N_ := Aside0.mk (Kd.R_below (by repeat (first | exact HO_42.out | (with_reducible refine Kd.R_drewN ?_ _) | (with_reducible refine Kd.R_drew ?_))) hb_); clear HO_42; have HO_42 := N_; clear N_
 have N_ := Aside0.mk (Kd.R_below (by repeat (first | exact HO_56.out | (with_reducible refine Kd.R_drewN ?_ _) | (with_reducible refine Kd.R_drew ?_))) hb_); clear HO_56; have HO_56 := N_; clear N_
 have N_ := Aside0.mk (Kd.R_below (by repeat (first | exact HO_65.out | (with_reducible refine Kd.R_drewN ?_ _) | (with_reducible refine Kd.R_drew ?_))) hb_); clear HO_65; have HO_65 := N_; clear N_
 have N_ := Aside0.mk (Kd.R_below (by repeat (first | exact HO_76.out | (with_reducible refine Kd.R_drewN ?_ _) | (with_reducible refine Kd.R_drew ?_))) hb_); clear HO_76; have HO_76 := N_; clear N_
 have N_ := Aside0.mk (show Below w.heap.size w w_117 from Below.trans (by repeat (first | exact HB.out | apply pw_below_drewN | apply below_drew)) (Below.mono hb_ HB.out.size)); clear HB; have HB := N_; clear N_
 have N_ := Aside0.mk (show w_117.heap[w.heap.size]? = some (Obj.cells #[.slice A0 l0.length c0, .int .i64 a0, .bool b0, .int .i64 a1, .int .i64 a2] 73) from (hb_.block _ (blk_lt HQ_12.out)).trans HQ_12.out); clear HQ_12; have HQ_12 := N_; clear N_
 have N_ := Aside0.mk (show w_117.heap[w_38.heap.size]? = some (Obj.cells #[.slice A_40 r0.length c_41, .int .i64 r1, .bool r2, .int .i64 r3, .int .i64 r4] 77) from (hb_.block _ (blk_lt HQ_45.out)).trans HQ_45.out); clear HQ_45; have HQ_45 := N_; clear N_
 have N_ := Aside0.mk (show w_117.heap[w_52.heap.size]? = some (Obj.cells #[.slice A_54 l0.length c_55, .int .i64 a0, .bool b0, .int .i64 a1, .int .i64 a2] 77) from (hb_.block _ (blk_lt HQ_59.out)).trans HQ_59.out); clear HQ_59; have HQ_59 := N_; clear N_
 have N_ := Aside0.mk (show w_117.heap[w_72.heap.size]? = some (Obj.cells #[.slice A_74 r0.length c_75, .int .i64 r1, .bool r2, .int .i64 r3, .int .i64 r4] 77) from (hb_.block _ (blk_lt HQ_79.out)).trans HQ_79.out); clear HQ_79; have HQ_79 := N_; clear N_
 clear hb_
 obtain ⟨ke_123, he_124⟩ := (laws_eqByteS.T l1 (by omega)).rounds
 replace he_124 := Aside0.mk he_124
 go_wp2_with fail
 refine (laws_eqByteS.calls ke_123 _ _ l1 _ _ l1 true _ (by repeat (first | exact (Kd.R_reads' HO_65.out).2.2 | (with_reducible refine Kd.C_drewN ?_ _) | (with_reducible refine Kd.C_drew ?_))) (Kd.R_reads' HO_65.out).2.1 (by repeat (first | exact (Kd.R_reads' HO_121.out).2.2 | (with_reducible refine Kd.C_drewN ?_ _) | (with_reducible refine Kd.C_drew ?_))) (Kd.R_reads' HO_121.out).2.1 he_124.out).mono ?_
 rintro e_ w_ ⟨rfl, ⟨nd_, rfl⟩⟩
 obtain ⟨km_126, hm_127⟩ := (markFeed_ev l0 a0 b0 a1 a2 1 (by omega) (by omega) (by omega)).rounds; replace hm_127 := Aside0.mk hm_127
 have q_128 := blk_cell HQ_59.out 0; simp at q_128
 have q_129 := blk_cell HQ_59.out 1; simp at q_129
 have q_130 := blk_cell HQ_59.out 2; simp at q_130
 have q_131 := blk_cell HQ_59.out 3; simp at q_131
 have q_132 := blk_cell HQ_59.out 4; simp at q_132
 go_wp2_with fail
 clear q_128 q_129 q_130 q_131 q_132
 refine (laws_markFeed.calls km_126 (fun k_ => w_44.heap.size ≤ k_ ∧ k_ < w_52.heap.size) _ l0 a0 b0 a1 a2 1 _ _ w _ (by repeat (first | exact HB.out | apply pw_below_drewN | apply below_drew)) (by repeat (first | exact HO_56.out | (with_reducible refine Kd.R_drewN ?_ _) | (with_reducible refine Kd.R_drew ?_))) hm_127.out).mono ?_
 rintro e_ w_125 ⟨rfl, hn_, hb_, hk_⟩
 have NX_ := Aside0.mk (Kd.R_reok rfl hn_ (fun k_ hk_ => HO_56.out.1 k_ hk_)); clear hn_
 have N_ := Aside0.mk (Kd.R_kept (by repeat (first | exact HO_42.out | (with_reducible refine Kd.R_drewN ?_ _) | (with_reducible refine Kd.R_drew ?_))) hk_ (fun k_ hk_ hn_ => by have z1_ := hk_.1; have z2_ := hk_.2; have z3_ := hn_.1; have z4_ := hn_.2; have := HZ_13.out; have := HZ_20.out; have := HZ_31.out; have := HZ_37.out; have := HZ_43.out; have := HZ_46.out; have := HZ_57.out; have := HZ_60.out; have := HZ_66.out; have := HZ_77.out; have := HZ_80.out; have := HZ_94.out; have := HZ_112.out; have := HZ_116.out; have := HZ_122.out; omega)); clear HO_42; have HO_42 := N_; clear N_
 have N_ := Aside0.mk (Kd.R_kept (by repeat (first | exact HO_65.out | (with_reducible refine Kd.R_drewN ?_ _) | (with_reducible refine Kd.R_drew ?_))) hk_ (fun k_ hk_ hn_ => by have z1_ := hk_.1; have z2_ := hk_.2; have z3_ := hn_.1; have z4_ := hn_.2; have := HZ_13.out; have := HZ_20.out; have := HZ_31.out; have := HZ_37.out; have := HZ_43.out; have := HZ_46.out; have := HZ_57.out; have := HZ_60.out; have := HZ_66.out; have := HZ_77.out; have := HZ_80.out; have := HZ_94.out; have := HZ_112.out; have := HZ_116.out; have := HZ_122.out; omega)); clear HO_65; have HO_65 := N_; clear N_
 have N_ := Aside0.mk (Kd.R_kept (by repeat (first | exact HO_76.out | (with_reducible refine Kd.R_drewN ?_ _) | (with_reducible refine Kd.R_drew ?_))) hk_ (fun k_ hk_ hn_ => by have z1_ := hk_.1; have z2_ := hk_.2; have z3_ := hn_.1; have z4_ := hn_.2; have := HZ_13.out; have := HZ_20.out; have := HZ_31.out; have := HZ_37.out; have := HZ_43.out; have := HZ_46.out; have := HZ_57.out; have := HZ_60.out; have := HZ_66.out; have := HZ_77.out; have := HZ_80.out; have := HZ_94.out; have := HZ_112.out; have := HZ_116.out; have := HZ_122.out; omega)); clear HO_76; have HO_76 := N_; clear N_
 have N_ := Aside0.mk ((hk_.2 _ (blk_lt HQ_12.out) (fun hn_ => by have z3_ := hn_.1; have z4_ := hn_.2; have := HZ_13.out; have := HZ_20.out; have := HZ_31.out; have := HZ_37.out; have := HZ_43.out; have := HZ_46.out; have := HZ_57.out; have := HZ_60.out; have := HZ_66.out; have := HZ_77.out; have := HZ_80.out; have := HZ_94.out; have := HZ_112.out; have := HZ_116.out; have := HZ_122.out; omega)).trans HQ_12.out); clear HQ_12; have HQ_12 := N_; clear N_
 have N_ := Aside0.mk ((hk_.2 _ (blk_lt HQ_45.out) (fun hn_ => by have z3_ := hn_.1; have z4_ := hn_.2; have := HZ_13.out; have := HZ_20.out; have := HZ_31.out; have := HZ_37.out; have := HZ_43.out; have := HZ_46.out; have := HZ_57.out; have := HZ_60.out; have := HZ_66.out; have := HZ_77.out; have := HZ_80.out; have := HZ_94.out; have := HZ_112.out; have := HZ_116.out; have := HZ_122.out; omega)).trans HQ_45.out); clear HQ_45; have HQ_45 := N_; clear N_
 have N_ := Aside0.mk ((hk_.2 _ (blk_lt HQ_59.out) (fun hn_ => by have z3_ := hn_.1; have z4_ := hn_.2; have := HZ_13.out; have := HZ_20.out; have := HZ_31.out; have := HZ_37.out; have := HZ_43.out; have := HZ_46.out; have := HZ_57.out; have := HZ_60.out; have := HZ_66.out; have := HZ_77.out; have := HZ_80.out; have := HZ_94.out; have := HZ_112.out; have := HZ_116.out; have := HZ_122.out; omega)).trans HQ_59.out); clear HQ_59; have HQ_59 := N_; clear N_
 have N_ := Aside0.mk ((hk_.2 _ (blk_lt HQ_79.out) (fun hn_ => by have z3_ := hn_.1; have z4_ := hn_.2; have := HZ_13.out; have := HZ_20.out; have := HZ_31.out; have := HZ_37.out; have := HZ_43.out; have := HZ_46.out; have := HZ_57.out; have := HZ_60.out; have := HZ_66.out; have := HZ_77.out; have := HZ_80.out; have := HZ_94.out; have := HZ_112.out; have := HZ_116.out; have := HZ_122.out; omega)).trans HQ_79.out); clear HQ_79; have HQ_79 := N_; clear N_
 clear HO_56; have HO_56 := NX_; clear NX_
 have hz_ : w_117.heap.size ≤ w_125.heap.size := hk_.1; have HZm132_ := Aside0.mk hz_; clear hz_
 clear HB; have HB := Aside0.mk hb_; clear hb_ hk_
 obtain ⟨kk_, he_⟩ : ∃ q_ : Int, q_ = 1 + ((l0.length : Nat) : Int) := ⟨_, rfl⟩; rw [← he_]; have kka : 0 ≤ kk_ := (by omega); have kkb : kk_ ≤ 1125899906842624 := (by omega); clear he_
 obtain ⟨km_134, hm_135⟩ := (laws_markByteS.E l1 kk_ (by omega) (by omega) (by omega)).rounds; replace hm_135 := Aside0.mk hm_135
 go_wp2_with fail
 refine (laws_markByteS.calls km_134 (fun k_ => w_58.heap.size ≤ k_ ∧ k_ < w_61.heap.size) _ l1 kk_ _ _ w _ (by repeat (first | exact HB.out | apply pw_below_drewN | apply below_drew)) (by repeat (first | exact HO_65.out | (with_reducible refine Kd.R_drewN ?_ _) | (with_reducible refine Kd.R_drew ?_))) hm_135.out).mono ?_
 rintro e_ w_133 ⟨rfl, hn_, hb_, hk_⟩
 have NX_ := Aside0.mk (Kd.R_reok rfl hn_ (fun k_ hk_ => HO_65.out.1 k_ hk_)); clear hn_
 have N_ := Aside0.mk (Kd.R_kept (by repeat (first | exact HO_42.out | (with_reducible refine Kd.R_drewN ?_ _) | (with_reducible refine Kd.R_drew ?_))) hk_ (fun k_ hk_ hn_ => by have z1_ := hk_.1; have z2_ := hk_.2; have z3_ := hn_.1; have z4_ := hn_.2; have := HZ_13.out; have := HZ_20.out; have := HZ_31.out; have := HZ_37.out; have := HZ_43.out; have := HZ_46.out; have := HZ_57.out; have := HZ_60.out; have := HZ_66.out; have := HZ_77.out; have := HZ_80.out; have := HZ_94.out; have := HZ_112.out; have := HZ_116.out; have := HZ_122.out; have := HZm132_.out; omega)); clear HO_42; have HO_42 := N_; clear N_
 have N_ := Aside0.mk (Kd.R_kept (by repeat (first | exact HO_56.out | (with_reducible refine Kd.R_drewN ?_ _) | (with_reducible refine Kd.R_drew ?_))) hk_ (fun k_ hk_ hn_ => by have z1_ := hk_.1; have z2_ := hk_.2; have z3_ := hn_.1; have z4_ := hn_.2; have := HZ_13.out; have := HZ_20.out; have := HZ_31.out; have := HZ_37.out; have := HZ_43.out; have := HZ_46.out; have := HZ_57.out; have := HZ_60.out; have := HZ_66.out; have := HZ_77.out; have := HZ_80.out; have := HZ_94.out; have := HZ_112.out; have := HZ_116.out; have := HZ_122.out; have := HZm132_.out; omega)); clear HO_56; have HO_56 := N_; clear N_
 have N_ := Aside0.mk (Kd.R_kept (by repeat (first | exact HO_76.out | (with_reducible refine Kd.R_drewN ?_ _) | (with_reducible refine Kd.R_drew ?_))) hk_ (fun k_ hk_ hn_ => by have z1_ := hk_.1; have z2_ := hk_.2; have z3_ := hn_.1; have z4_ := hn_.2; have := HZ_13.out; have := HZ_20.out; have := HZ_31.out; have := HZ_37.out; have := HZ_43.out; have := HZ_46.out; have := HZ_57.out; have := HZ_60.out; have := HZ_66.out; have := HZ_77.out; have := HZ_80.out; have := HZ_94.out; have := HZ_112.out; have := HZ_116.out; have := HZ_122.out; have := HZm132_.out; omega)); clear HO_76; have HO_76 := N_; clear N_
 have N_ := Aside0.mk ((hk_.2 _ (blk_lt HQ_12.out) (fun hn_ => by have z3_ := hn_.1; have z4_ := hn_.2; have := HZ_13.out; have := HZ_20.out; have := HZ_31.out; have := HZ_37.out; have := HZ_43.out; have := HZ_46.out; have := HZ_57.out; have := HZ_60.out; have := HZ_66.out; have := HZ_77.out; have := HZ_80.out; have := HZ_94.out; have := HZ_112.out; have := HZ_116.out; have := HZ_122.out; have := HZm132_.out; omega)).trans HQ_12.out); clear HQ_12; have HQ_12 := N_; clear N_
 have N_ := Aside0.mk ((hk_.2 _ (blk_lt HQ_45.out) (fun hn_ => by have z3_ := hn_.1; have z4_ := hn_.2; have := HZ_13.out; have := HZ_20.out; have := HZ_31.out; have := HZ_37.out; have := HZ_43.out; have := HZ_46.out; have := HZ_57.out; have := HZ_60.out; have := HZ_66.out; have := HZ_77.out; have := HZ_80.out; have := HZ_94.out; have := HZ_112.out; have := HZ_116.out; have := HZ_122.out; have := HZm132_.out; omega)).trans HQ_45.out); clear HQ_45; have HQ_45 := N_; clear N_
 have N_ := Aside0.mk ((hk_.2 _ (blk_lt HQ_59.out) (fun hn_ => by have z3_ := hn_.1; have z4_ := hn_.2; have := HZ_13.out; have := HZ_20.out; have := HZ_31.out; have := HZ_37.out; have := HZ_43.out; have := HZ_46.out; have := HZ_57.out; have := HZ_60.out; have := HZ_66.out; have := HZ_77.out; have := HZ_80.out; have := HZ_94.out; have := HZ_112.out; have := HZ_116.out; have := HZ_122.out; have := HZm132_.out; omega)).trans HQ_59.out); clear HQ_59; have HQ_59 := N_; clear N_
 have N_ := Aside0.mk ((hk_.2 _ (blk_lt HQ_79.out) (fun hn_ => by have z3_ := hn_.1; have z4_ := hn_.2; have := HZ_13.out; have := HZ_20.out; have := HZ_31.out; have := HZ_37.out; have := HZ_43.out; have := HZ_46.out; have := HZ_57.out; have := HZ_60.out; have := HZ_66.out; have := HZ_77.out; have := HZ_80.out; have := HZ_94.out; have := HZ_112.out; have := HZ_116.out; have := HZ_122.out; have := HZm132_.out; omega)).trans HQ_79.out); clear HQ_79; have HQ_79 := N_; clear N_
 clear HO_65; have HO_65 := NX_; clear NX_
 have hz_ : w_125.heap.size ≤ w_133.heap.size := hk_.1; have HZm135_ := Aside0.mk hz_; clear hz_
 clear HB; have HB := Aside0.mk hb_; clear hb_ hk_
 obtain ⟨kl_, he_⟩ : ∃ q_ : Int, q_ = kk_ + ((l1.length : Nat) : Int) := ⟨_, rfl⟩; rw [← he_]; have dk_ : decide (kl_ < 0) = false := decide_eq_false (by omega); clear he_
 have q_136 := blk_cell HQ_79.out 0; simp at q_136
 have q_137 := blk_cell HQ_79.out 1; simp at q_137
 have q_138 := blk_cell HQ_79.out 2; simp at q_138
 have q_139 := blk_cell HQ_79.out 3; simp at q_139
 have q_140 := blk_cell HQ_79.out 4; simp at q_140
 have q_141 := blk_cell HQ_45.out 0; simp at q_141
 have q_142 := blk_cell HQ_45.out 1; simp at q_142
 have q_143 := blk_cell HQ_45.out 2; simp at q_143
 have q_144 := blk_cell HQ_45.out 3; simp at q_144
 have q_145 := blk_cell HQ_45.out 4; simp at q_145
 obtain ⟨ke_146, he_147⟩ := (eqFeed_ev r0 r1 r2 r3 r4 (by omega)).rounds; replace he_147 := Aside0.mk he_147
 go_wp2_with fail
 clear q_136 q_137 q_138 q_139 q_140 q_141 q_142 q_143 q_144 q_145
 refine (laws_eqFeed.calls ke_146 _ _ r0 r1 r2 r3 r4 _ _ r0 r1 r2 r3 r4 true _ (by repeat (first | exact (Kd.R_reads' HO_76.out).2.2 | (with_reducible refine Kd.C_drewN ?_ _) | (with_reducible refine Kd.C_drew ?_))) (Kd.R_reads' HO_76.out).2.1 (by repeat (first | exact (Kd.R_reads' HO_42.out).2.2 | (with_reducible refine Kd.C_drewN ?_ _) | (with_reducible refine Kd.C_drew ?_))) (Kd.R_reads' HO_42.out).2.1 he_147.out).mono ?_
 rintro e_ w_148 ⟨rfl, hb_⟩
 have hz_ : w_133.heap.size ≤ w_148.heap.size := hb_.size; have HZ_149 := Aside0.mk hz_; clear hz_
 have N_ := Aside0.mk (Kd.R_below (by repeat (first | exact HO_42.out | (with_reducible refine Kd.R_drewN ?_ _) | (with_reducible refine Kd.R_drew ?_))) hb_); clear HO_42; have HO_42 := N_; clear N_
 have N_ := Aside0.mk (Kd.R_below (by repeat (first | exact HO_76.out | (with_reducible refine Kd.R_drewN ?_ _) | (with_reducible refine Kd.R_drew ?_))) hb_); clear HO_76; have HO_76 := N_; clear N_
 have N_ := Aside0.mk (show Below w.heap.size w w_148 from Below.trans (by repeat (first | exact HB.out | apply pw_below_drewN | apply below_drew)) (Below.mono hb_ HB.out.size)); clear HB; have HB := N_; clear N_
 have N_ := Aside0.mk (show w_148.heap[w.heap.size]? = some (Obj.cells #[.slice A0 l0.length c0, .int .i64 a0, .bool b0, .int .i64 a1, .int .i64 a2] 73) from (hb_.block _ (blk_lt HQ_12.out)).trans HQ_12.out); clear HQ_12; have HQ_12 := N_; clear N_
 have N_ := Aside0.mk (show w_148.heap[w_38.heap.size]? = some (Obj.cells #[.slice A_40 r0.length c_41, .int .i64 r1, .bool r2, .int .i64 r3, .int .i64 r4] 77) from (hb_.block _ (blk_lt HQ_45.out)).trans HQ_45.out); clear HQ_45; have HQ_45 := N_; clear N_
 have N_ := Aside0.mk (show w_148.heap[w_52.heap.size]? = some (Obj.cells #[.slice A_54 l0.length c_55, .int .i64 a0, .bool b0, .int .i64 a1, .int .i64 a2] 77) from (hb_.block _ (blk_lt HQ_59.out)).trans HQ_59.out); clear HQ_59; have HQ_59 := N_; clear N_
 have N_ := Aside0.mk (show w_148.heap[w_72.heap.size]? = some (Obj.cells #[.slice A_74 r0.length c_75, .int .i64 r1, .bool r2, .int .i64 r3, .int .i64 r4] 77) from (hb_.block _ (blk_lt HQ_79.out)).trans HQ_79.out); clear HQ_79; have HQ_79 := N_; clear N_
 clear hb_
 obtain ⟨km_151, hm_152⟩ := (markFeed_ev r0 r1 r2 r3 r4 1 (by omega) (by omega) (by omega)).rounds; replace hm_152 := Aside0.mk hm_152
 have q_153 := blk_cell HQ_79.out 0; simp at q_153
 have q_154 := blk_cell HQ_79.out 1; simp at q_154
 have q_155 := blk_cell HQ_79.out 2; simp at q_155
 have q_156 := blk_cell HQ_79.out 3; simp at q_156
 have q_157 := blk_cell HQ_79.out 4; simp at q_157
 go_wp2_with fail
 clear q_153 q_154 q_155 q_156 q_157
 refine (laws_markFeed.calls km_151 (fun k_ => w_61.heap.size ≤ k_ ∧ k_ < w_72.heap.size) _ r0 r1 r2 r3 r4 1 _ _ w _ (by repeat (first | exact HB.out | apply pw_below_drewN | apply below_drew)) (by repeat (first | exact HO_76.out | (with_reducible refine Kd.R_drewN ?_ _) | (with_reducible refine Kd.R_drew ?_))) hm_152.out).mono ?_
 rintro e_ w_150 ⟨rfl, hn_, hb_, hk_⟩
 have NX_ := Aside0.mk (Kd.R_reok rfl hn_ (fun k_ hk_ => HO_76.out.1 k_ hk_)); clear hn_
 have N_ := Aside0.mk (Kd.R_kept (by repeat (first | exact HO_42.out | (with_reducible refine Kd.R_drewN ?_ _) | (with_reducible refine Kd.R_drew ?_))) hk_ (fun k_ hk_ hn_ => by have z1_ := hk_.1; have z2_ := hk_.2; have z3_ := hn_.1; have z4_ := hn_.2; have := HZ_13.out; have := HZ_20.out; have := HZ_31.out; have := HZ_37.out; have := HZ_43.out; have := HZ_46.out; have := HZ_57.out; have := HZ_60.out; have := HZ_66.out; have := HZ_77.out; have := HZ_80.out; have := HZ_94.out; have := HZ_112.out; have := HZ_116.out; have := HZ_122.out; have := HZm132_.out; have := HZm135_.out; have := HZ_149.out; omega)); clear HO_42; have HO_42 := N_; clear N_
 have N_ := Aside0.mk ((hk_.2 _ (blk_lt HQ_12.out) (fun hn_ => by have z3_ := hn_.1; have z4_ := hn_.2; have := HZ_13.out; have := HZ_20.out; have := HZ_31.out; have := HZ_37.out; have := HZ_43.out; have := HZ_46.out; have := HZ_57.out; have := HZ_60.out; have := HZ_66.out; have := HZ_77.out; have := HZ_80.out; have := HZ_94.out; have := HZ_112.out; have := HZ_116.out; have := HZ_122.out; have := HZm132_.out; have := HZm135_.out; have := HZ_149.out; omega)).trans HQ_12.out); clear HQ_12; have HQ_12 := N_; clear N_
 have N_ := Aside0.mk ((hk_.2 _ (blk_lt HQ_45.out) (fun hn_ => by have z3_ := hn_.1; have z4_ := hn_.2; have := HZ_13.out; have := HZ_20.out; have := HZ_31.out; have := HZ_37.out; have := HZ_43.out; have := HZ_46.out; have := HZ_57.out; have := HZ_60.out; have := HZ_66.out; have := HZ_77.out; have := HZ_80.out; have := HZ_94.out; have := HZ_112.out; have := HZ_116.out; have := HZ_122.out; have := HZm132_.out; have := HZm135_.out; have := HZ_149.out; omega)).trans HQ_45.out); clear HQ_45; have HQ_45 := N_; clear N_
 have N_ := Aside0.mk ((hk_.2 _ (blk_lt HQ_59.out) (fun hn_ => by have z3_ := hn_.1; have z4_ := hn_.2; have := HZ_13.out; have := HZ_20.out; have := HZ_31.out; have := HZ_37.out; have := HZ_43.out; have := HZ_46.out; have := HZ_57.out; have := HZ_60.out; have := HZ_66.out; have := HZ_77.out; have := HZ_80.out; have := HZ_94.out; have := HZ_112.out; have := HZ_116.out; have := HZ_122.out; have := HZm132_.out; have := HZm135_.out; have := HZ_149.out; omega)).trans HQ_59.out); clear HQ_59; have HQ_59 := N_; clear N_
 have N_ := Aside0.mk ((hk_.2 _ (blk_lt HQ_79.out) (fun hn_ => by have z3_ := hn_.1; have z4_ := hn_.2; have := HZ_13.out; have := HZ_20.out; have := HZ_31.out; have := HZ_37.out; have := HZ_43.out; have := HZ_46.out; have := HZ_57.out; have := HZ_60.out; have := HZ_66.out; have := HZ_77.out; have := HZ_80.out; have := HZ_94.out; have := HZ_112.out; have := HZ_116.out; have := HZ_122.out; have := HZm132_.out; have := HZm135_.out; have := HZ_149.out; omega)).trans HQ_79.out); clear HQ_79; have HQ_79 := N_; clear N_
 clear HO_76; have HO_76 := NX_; clear NX_
 have hz_ : w_148.heap.size ≤ w_150.heap.size := hk_.1; have HZm157_ := Aside0.mk hz_; clear hz_
 clear HB; have HB := Aside0.mk hb_; clear hb_ hk_
 obtain ⟨m_, he_⟩ : ∃ q_ : Int, q_ = 1 + ((r0.length : Nat) : Int) := ⟨_, rfl⟩; rw [← he_]; have hm_ := Aside0.mk he_; have ma_ : 0 ≤ m_ := (by omega); clear he_; have dm_ : decide (m_ < 0) = false := decide_eq_false (by omega)
 obtain ⟨kh_158, hh_159⟩ := (heldFeed_ev r0.length r1 r2 r3 r4 1 (by omega) (by omega) (by omega)).rounds; rw [← hm_.out] at hh_159; replace hh_159 := Aside0.mk hh_159
 have q_160 := blk_cell HQ_79.out 0; simp at q_160
 have q_161 := blk_cell HQ_79.out 1; simp at q_161
 have q_162 := blk_cell HQ_79.out 2; simp at q_162
 have q_163 := blk_cell HQ_79.out 3; simp at q_163
 have q_164 := blk_cell HQ_79.out 4; simp at q_164
 go_wp2_with fail
 clear q_160 q_161 q_162 q_163 q_164
 refine (laws_heldFeed.R kh_158 _ _ _ _ r1 r2 r3 r4 1 m_ _ _ _ (by repeat (first | exact HO_76.out | (with_reducible refine Kd.R_drewN ?_ _) | (with_reducible refine Kd.R_drew ?_))) hh_159.out).mono ?_
 rintro e_ w_165 ⟨rfl, hb_⟩
 have hz_ : w_150.heap.size ≤ w_165.heap.size := hb_.size; have HZ_166 := Aside0.mk hz_; clear hz_
 have N_ := Aside0.mk (Kd.R_below (by repeat (first | exact HO_42.out | (with_reducible refine Kd.R_drewN ?_ _) | (with_reducible refine Kd.R_drew ?_))) hb_); clear HO_42; have HO_42 := N_; clear N_
 have N_ := Aside0.mk (Kd.R_below (by repeat (first | exact HO_76.out | (with_reducible refine Kd.R_drewN ?_ _) | (with_reducible refine Kd.R_drew ?_))) hb_); clear HO_76; have HO_76 := N_; clear N_
 have N_ := Aside0.mk (show Below w.heap.size w w_165 from Below.trans (by repeat (first | exact HB.out | apply pw_below_drewN | apply below_drew)) (Below.mono hb_ HB.out.size)); clear HB; have HB := N_; clear N_
 have N_ := Aside0.mk (show w_165.heap[w.heap.size]? = some (Obj.cells #[.slice A0 l0.length c0, .int .i64 a0, .bool b0, .int .i64 a1, .int .i64 a2] 73) from (hb_.block _ (blk_lt HQ_12.out)).trans HQ_12.out); clear HQ_12; have HQ_12 := N_; clear N_
 have N_ := Aside0.mk (show w_165.heap[w_38.heap.size]? = some (Obj.cells #[.slice A_40 r0.length c_41, .int .i64 r1, .bool r2, .int .i64 r3, .int .i64 r4] 77) from (hb_.block _ (blk_lt HQ_45.out)).trans HQ_45.out); clear HQ_45; have HQ_45 := N_; clear N_
 have N_ := Aside0.mk (show w_165.heap[w_52.heap.size]? = some (Obj.cells #[.slice A_54 l0.length c_55, .int .i64 a0, .bool b0, .int .i64 a1, .int .i64 a2] 77) from (hb_.block _ (blk_lt HQ_59.out)).trans HQ_59.out); clear HQ_59; have HQ_59 := N_; clear N_
 have N_ := Aside0.mk (show w_165.heap[w_72.heap.size]? = some (Obj.cells #[.slice A_74 r0.length c_75, .int .i64 r1, .bool r2, .int .i64 r3, .int .i64 r4] 77) from (hb_.block _ (blk_lt HQ_79.out)).trans HQ_79.out); clear HQ_79; have HQ_79 := N_; clear N_
 clear hb_
 have q_167 := blk_cell HQ_12.out 0; simp at q_167
 have q_168 := blk_cell HQ_12.out 1; simp at q_168
 have q_169 := blk_cell HQ_12.out 2; simp at q_169
 have q_170 := blk_cell HQ_12.out 3; simp at q_170
 have q_171 := blk_cell HQ_12.out 4; simp at q_171
 go_wp2_with fail
 clear q_167 q_168 q_169 q_170 q_171
 refine (laws_toFeed.calls kt0 _ _ l0 a0 b0 a1 a2 l0 a0 b0 a1 a2 _ (by repeat (first | exact Kd.C_below HR0.out HB.out | (with_reducible refine Kd.C_drewN ?_ _) | (with_reducible refine Kd.C_drew ?_))) HC0.out HT0.out).mono ?_
 rintro e_ w_172 ⟨v_173, rfl, ho_, hb_⟩
 obtain ⟨A_174, c_175, e1_⟩ := Kd.R_slice ho_; subst e1_
 have HO_176 := Aside0.mk (Kd.R_mono (ok' := fun k_ => w_165.heap.size ≤ k_ ∧ k_ < w_172.heap.size) (Kd.R_lower (Kd.R_bound ho_) HB.out.size) (fun k_ hk_ => ⟨hk_.2.1, hk_.2.2.1⟩)); clear ho_
 have HS_ : w_165.heap.size ≤ w_172.heap.size := hb_.size
 have HZ_177 := Aside0.mk HS_; clear HS_
 have N_ := Aside0.mk (Kd.R_below (by repeat (first | exact HO_42.out | (with_reducible refine Kd.R_drewN ?_ _) | (with_reducible refine Kd.R_drew ?_))) hb_); clear HO_42; have HO_42 := N_; clear N_
 have N_ := Aside0.mk (Kd.R_below (by repeat (first | exact HO_76.out | (with_reducible refine Kd.R_drewN ?_ _) | (with_reducible refine Kd.R_drew ?_))) hb_); clear HO_76; have HO_76 := N_; clear N_
 have N_ := Aside0.mk (show Below w.heap.size w w_172 from Below.trans (by repeat (first | exact HB.out | apply pw_below_drewN | apply below_drew)) (Below.mono hb_ HB.out.size)); clear HB; have HB := N_; clear N_
 have N_ := Aside0.mk (show w_172.heap[w.heap.size]? = some (Obj.cells #[.slice A0 l0.length c0, .int .i64 a0, .bool b0, .int .i64 a1, .int .i64 a2] 73) from (hb_.block _ (blk_lt HQ_12.out)).trans HQ_12.out); clear HQ_12; have HQ_12 := N_; clear N_
 have N_ := Aside0.mk (show w_172.heap[w_38.heap.size]? = some (Obj.cells #[.slice A_40 r0.length c_41, .int .i64 r1, .bool r2, .int .i64 r3, .int .i64 r4] 77) from (hb_.block _ (blk_lt HQ_45.out)).trans HQ_45.out); clear HQ_45; have HQ_45 := N_; clear N_
 have N_ := Aside0.mk (show w_172.heap[w_52.heap.size]? = some (Obj.cells #[.slice A_54 l0.length c_55, .int .i64 a0, .bool b0, .int .i64 a1, .int .i64 a2] 77) from (hb_.block _ (blk_lt HQ_59.out)).trans HQ_59.out); clear HQ_59; have HQ_59 := N_; clear N_
 have N_ := Aside0.mk (show w_172.heap[w_72.heap.size]? = some (Obj.cells #[.slice A_74 r0.length c_75, .int .i64 r1, .bool r2, .int .i64 r3, .int .i64 r4] 77) from (hb_.block _ (blk_lt HQ_79.out)).trans HQ_79.out); clear HQ_79; have HQ_79 := N_; clear N_
 clear hb_
 go_wp2_with fail
 refine (laws_toByteS.calls kt1 _ _ l1 l1 _ (by repeat (first | exact Kd.C_below HR1.out HB.out | (with_reducible refine Kd.C_drewN ?_ _) | (with_reducible refine Kd.C_drew ?_))) HC1.out HT1.out).mono ?_
 rintro e_ w_178 ⟨v_179, rfl, ho_, hb_⟩
 obtain ⟨A_180, c_181, e1_⟩ := Kd.R_slice ho_; subst e1_
 have HO_182 := Aside0.mk (Kd.R_mono (ok' := fun k_ => w_172.heap.size ≤ k_ ∧ k_ < w_178.heap.size) (Kd.R_lower (Kd.R_bound ho_) HB.out.size) (fun k_ hk_ => ⟨hk_.2.1, hk_.2.2.1⟩)); clear ho_
 have HS_ : w_172.heap.size ≤ w_178.heap.size := hb_.size
 have HZ_183 := Aside0.mk HS_; clear HS_
 have N_ := Aside0.mk (Kd.R_below (by repeat (first | exact HO_42.out | (with_reducible refine Kd.R_drewN ?_ _) | (with_reducible refine Kd.R_drew ?_))) hb_); clear HO_42; have HO_42 := N_; clear N_
 have N_ := Aside0.mk (Kd.R_below (by repeat (first | exact HO_76.out | (with_reducible refine Kd.R_drewN ?_ _) | (with_reducible refine Kd.R_drew ?_))) hb_); clear HO_76; have HO_76 := N_; clear N_
 have N_ := Aside0.mk (Kd.R_below (by repeat (first | exact HO_176.out | (with_reducible refine Kd.R_drewN ?_ _) | (with_reducible refine Kd.R_drew ?_))) hb_); clear HO_176; have HO_176 := N_; clear N_
 have N_ := Aside0.mk (show Below w.heap.size w w_178 from Below.trans (by repeat (first | exact HB.out | apply pw_below_drewN | apply below_drew)) (Below.mono hb_ HB.out.size)); clear HB; have HB := N_; clear N_
 have N_ := Aside0.mk (show w_178.heap[w.heap.size]? = some (Obj.cells #[.slice A0 l0.length c0, .int .i64 a0, .bool b0, .int .i64 a1, .int .i64 a2] 73) from (hb_.block _ (blk_lt HQ_12.out)).trans HQ_12.out); clear HQ_12; have HQ_12 := N_; clear N_
 have N_ := Aside0.mk (show w_178.heap[w_38.heap.size]? = some (Obj.cells #[.slice A_40 r0.length c_41, .int .i64 r1, .bool r2, .int .i64 r3, .int .i64 r4] 77) from (hb_.block _ (blk_lt HQ_45.out)).trans HQ_45.out); clear HQ_45; have HQ_45 := N_; clear N_
 have N_ := Aside0.mk (show w_178.heap[w_52.heap.size]? = some (Obj.cells #[.slice A_54 l0.length c_55, .int .i64 a0, .bool b0, .int .i64 a1, .int .i64 a2] 77) from (hb_.block _ (blk_lt HQ_59.out)).trans HQ_59.out); clear HQ_59; have HQ_59 := N_; clear N_
 have N_ := Aside0.mk (show w_178.heap[w_72.heap.size]? = some (Obj.cells #[.slice A_74 r0.length c_75, .int .i64 r1, .bool r2, .int .i64 r3, .int .i64 r4] 77) from (hb_.block _ (blk_lt HQ_79.out)).trans HQ_79.out); clear HQ_79; have HQ_79 := N_; clear N_
 clear hb_
 go_wp2_with fail
 refine (impl_Push.calls  _ _ l0 a0 b0 a1 a2 _ _ l1 r0 r1 r2 r3 r4 _ (by repeat (first | exact (Kd.R_reads' HO_176.out).2.2 | (with_reducible refine Kd.C_drewN ?_ _) | (with_reducible refine Kd.C_drew ?_))) (Kd.R_reads' HO_176.out).2.1 (by repeat (first | exact (Kd.R_reads' HO_182.out).2.2 | (with_reducible refine Kd.C_drewN ?_ _) | (with_reducible refine Kd.C_drew ?_))) (Kd.R_reads' HO_182.out).2.1 HI.out).mono ?_
 rintro e_ w_184 ⟨v_185, rfl, ho_, hb_⟩
 obtain ⟨A_186, c_187, e1_⟩ := Kd.R_slice ho_; subst e1_
 have HO_188 := Aside0.mk (Kd.R_mono (ok' := fun k_ => w_178.heap.size ≤ k_ ∧ k_ < w_184.heap.size) (Kd.R_lower (Kd.R_bound ho_) HB.out.size) (fun k_ hk_ => ⟨hk_.2.1, hk_.2.2.1⟩)); clear ho_
 have HS_ : w_178.heap.size ≤ w_184.heap.size := hb_.size
 have HZ_189 := Aside0.mk HS_; clear HS_
 have N_ := Aside0.mk (Kd.R_below (by repeat (first | exact HO_42.out | (with_reducible refine Kd.R_drewN ?_ _) | (with_reducible refine Kd.R_drew ?_))) hb_); clear HO_42; have HO_42 := N_; clear N_
 have N_ := Aside0.mk (Kd.R_below (by repeat (first | exact HO_76.out | (with_reducible refine Kd.R_drewN ?_ _) | (with_reducible refine Kd.R_drew ?_))) hb_); clear HO_76; have HO_76 := N_; clear N_
 have N_ := Aside0.mk (Kd.R_below (by repeat (first | exact HO_176.out | (with_reducible refine Kd.R_drewN ?_ _) | (with_reducible refine Kd.R_drew ?_))) hb_); clear HO_176; have HO_176 := N_; clear N_
 have N_ := Aside0.mk (Kd.R_below (by repeat (first | exact HO_182.out | (with_reducible refine Kd.R_drewN ?_ _) | (with_reducible refine Kd.R_drew ?_))) hb_); clear HO_182; have HO_182 := N_; clear N_
 have N_ := Aside0.mk (show Below w.heap.size w w_184 from Below.trans (by repeat (first | exact HB.out | apply pw_below_drewN | apply below_drew)) (Below.mono hb_ HB.out.size)); clear HB; have HB := N_; clear N_
 have N_ := Aside0.mk (show w_184.heap[w.heap.size]? = some (Obj.cells #[.slice A0 l0.length c0, .int .i64 a0, .bool b0, .int .i64 a1, .int .i64 a2] 73) from (hb_.block _ (blk_lt HQ_12.out)).trans HQ_12.out); clear HQ_12; have HQ_12 := N_; clear N_
 have N_ := Aside0.mk (show w_184.heap[w_38.heap.size]? = some (Obj.cells #[.slice A_40 r0.length c_41, .int .i64 r1, .bool r2, .int .i64 r3, .int .i64 r4] 77) from (hb_.block _ (blk_lt HQ_45.out)).trans HQ_45.out); clear HQ_45; have HQ_45 := N_; clear N_
 have N_ := Aside0.mk (show w_184.heap[w_52.heap.size]? = some (Obj.cells #[.slice A_54 l0.length c_55, .int .i64 a0, .bool b0, .int .i64 a1, .int .i64 a2] 77) from (hb_.block _ (blk_lt HQ_59.out)).trans HQ_59.out); clear HQ_59; have HQ_59 := N_; clear N_
 have N_ := Aside0.mk (show w_184.heap[w_72.heap.size]? = some (Obj.cells #[.slice A_74 r0.length c_75, .int .i64 r1, .bool r2, .int .i64 r3, .int .i64 r4] 77) from (hb_.block _ (blk_lt HQ_79.out)).trans HQ_79.out); clear HQ_79; have HQ_79 := N_; clear N_
 clear hb_
 go_upto_region 31 with (fail)
 have hb_ := below_alloc (Below.refl w_184.heap.size w_184) (Obj.cells #[.slice A_186 r0.length c_187, .int .i64 r1, .bool r2, .int .i64 r3, .int .i64 r4] 77)
 have hq_ := blk_new w_184 (Obj.cells #[.slice A_186 r0.length c_187, .int .i64 r1, .bool r2, .int .i64 r3, .int .i64 r4] 77)
 generalize w_184.alloc (Obj.cells #[.slice A_186 r0.length c_187, .int .i64 r1, .bool r2, .int .i64 r3, .int .i64 r4] 77) = w_190 at hb_ hq_ ⊢
 have N_ := Aside0.mk (Kd.R_below (by repeat (first | exact HO_42.out | (with_reducible refine Kd.R_drewN ?_ _) | (with_reducible refine Kd.R_drew ?_))) hb_); clear HO_42; have HO_42 := N_; clear N_
 have N_ := Aside0.mk (Kd.R_below (by repeat (first | exact HO_76.out | (with_reducible refine Kd.R_drewN ?_ _) | (with_reducible refine Kd.R_drew ?_))) hb_); clear HO_76; have HO_76 := N_; clear N_
 have N_ := Aside0.mk (Kd.R_below (by repeat (first | exact HO_188.out | (with_reducible refine Kd.R_drewN ?_ _) | (with_reducible refine Kd.R_drew ?_))) hb_); clear HO_188; have HO_188 := N_; clear N_
 have N_ := Aside0.mk (show Below w.heap.size w w_190 from Below.trans (by repeat (first | exact HB.out | apply pw_below_drewN | apply below_drew)) (Below.mono hb_ HB.out.size)); clear HB; have HB := N_; clear N_
 have N_ := Aside0.mk (show w_190.heap[w.heap.size]? = some (Obj.cells #[.slice A0 l0.length c0, .int .i64 a0, .bool b0, .int .i64 a1, .int .i64 a2] 73) from (hb_.block _ (blk_lt HQ_12.out)).trans HQ_12.out); clear HQ_12; have HQ_12 := N_; clear N_
 have N_ := Aside0.mk (show w_190.heap[w_38.heap.size]? = some (Obj.cells #[.slice A_40 r0.length c_41, .int .i64 r1, .bool r2, .int .i64 r3, .int .i64 r4] 77) from (hb_.block _ (blk_lt HQ_45.out)).trans HQ_45.out); clear HQ_45; have HQ_45 := N_; clear N_
 have N_ := Aside0.mk (show w_190.heap[w_52.heap.size]? = some (Obj.cells #[.slice A_54 l0.length c_55, .int .i64 a0, .bool b0, .int .i64 a1, .int .i64 a2] 77) from (hb_.block _ (blk_lt HQ_59.out)).trans HQ_59.out); clear HQ_59; have HQ_59 := N_; clear N_
 have N_ := Aside0.mk (show w_190.heap[w_72.heap.size]? = some (Obj.cells #[.slice A_74 r0.length c_75, .int .i64 r1, .bool r2, .int .i64 r3, .int .i64 r4] 77) from (hb_.block _ (blk_lt HQ_79.out)).trans HQ_79.out); clear HQ_79; have HQ_79 := N_; clear N_
 have HQ_191 := Aside0.mk (show w_190.heap[w_184.heap.size]? = some (Obj.cells #[.slice A_186 r0.length c_187, .int .i64 r1, .bool r2, .int .i64 r3, .int .i64 r4] 77) from hq_)
 have hz_ : w_184.heap.size + 1 ≤ w_190.heap.size := blk_lt hq_; have HZ_192 := Aside0.mk hz_; clear hz_ hb_ hq_
 have q_193 := blk_cell HQ_191.out 0; simp at q_193
 have q_194 := blk_cell HQ_191.out 1; simp at q_194
 have q_195 := blk_cell HQ_191.out 2; simp at q_195
 have q_196 := blk_cell HQ_191.out 3; simp at q_196
 have q_197 := blk_cell HQ_191.out 4; simp at q_197
 have q_198 := blk_cell HQ_45.out 0; simp at q_198
 have q_199 := blk_cell HQ_45.out 1; simp at q_199
 have q_200 := blk_cell HQ_45.out 2; simp at q_200
 have q_201 := blk_cell HQ_45.out 3; simp at q_201
 have q_202 := blk_cell HQ_45.out 4; simp at q_202
 obtain ⟨ke_203, he_204⟩ := (eqFeed_ev r0 r1 r2 r3 r4 (by omega)).rounds; replace he_204 := Aside0.mk he_204
 go_wp2_with fail
 clear q_193 q_194 q_195 q_196 q_197 q_198 q_199 q_200 q_201 q_202
 refine (laws_eqFeed.calls ke_203 _ _ r0 r1 r2 r3 r4 _ _ r0 r1 r2 r3 r4 true _ (by repeat (first | exact (Kd.R_reads' HO_188.out).2.2 | (with_reducible refine Kd.C_drewN ?_ _) | (with_reducible refine Kd.C_drew ?_))) (Kd.R_reads' HO_188.out).2.1 (by repeat (first | exact (Kd.R_reads' HO_42.out).2.2 | (with_reducible refine Kd.C_drewN ?_ _) | (with_reducible refine Kd.C_drew ?_))) (Kd.R_reads' HO_42.out).2.1 he_204.out).mono ?_
 rintro e_ w_205 ⟨rfl, hb_⟩
 have hz_ : w_190.heap.size ≤ w_205.heap.size := hb_.size; have HZ_206 := Aside0.mk hz_; clear hz_
 have N_ := Aside0.mk (Kd.R_below (by repeat (first | exact HO_42.out | (with_reducible refine Kd.R_drewN ?_ _) | (with_reducible refine Kd.R_drew ?_))) hb_); clear HO_42; have HO_42 := N_; clear N_
 have N_ := Aside0.mk (Kd.R_below (by repeat (first | exact HO_76.out | (with_reducible refine Kd.R_drewN ?_ _) | (with_reducible refine Kd.R_drew ?_))) hb_); clear HO_76; have HO_76 := N_; clear N_
 have N_ := Aside0.mk (Kd.R_below (by repeat (first | exact HO_188.out | (with_reducible refine Kd.R_drewN ?_ _) | (with_reducible refine Kd.R_drew ?_))) hb_); clear HO_188; have HO_188 := N_; clear N_
 have N_ := Aside0.mk (show Below w.heap.size w w_205 from Below.trans (by repeat (first | exact HB.out | apply pw_below_drewN | apply below_drew)) (Below.mono hb_ HB.out.size)); clear HB; have HB := N_; clear N_
 have N_ := Aside0.mk (show w_205.heap[w.heap.size]? = some (Obj.cells #[.slice A0 l0.length c0, .int .i64 a0, .bool b0, .int .i64 a1, .int .i64 a2] 73) from (hb_.block _ (blk_lt HQ_12.out)).trans HQ_12.out); clear HQ_12; have HQ_12 := N_; clear N_
 have N_ := Aside0.mk (show w_205.heap[w_38.heap.size]? = some (Obj.cells #[.slice A_40 r0.length c_41, .int .i64 r1, .bool r2, .int .i64 r3, .int .i64 r4] 77) from (hb_.block _ (blk_lt HQ_45.out)).trans HQ_45.out); clear HQ_45; have HQ_45 := N_; clear N_
 have N_ := Aside0.mk (show w_205.heap[w_52.heap.size]? = some (Obj.cells #[.slice A_54 l0.length c_55, .int .i64 a0, .bool b0, .int .i64 a1, .int .i64 a2] 77) from (hb_.block _ (blk_lt HQ_59.out)).trans HQ_59.out); clear HQ_59; have HQ_59 := N_; clear N_
 have N_ := Aside0.mk (show w_205.heap[w_72.heap.size]? = some (Obj.cells #[.slice A_74 r0.length c_75, .int .i64 r1, .bool r2, .int .i64 r3, .int .i64 r4] 77) from (hb_.block _ (blk_lt HQ_79.out)).trans HQ_79.out); clear HQ_79; have HQ_79 := N_; clear N_
 have N_ := Aside0.mk (show w_205.heap[w_184.heap.size]? = some (Obj.cells #[.slice A_186 r0.length c_187, .int .i64 r1, .bool r2, .int .i64 r3, .int .i64 r4] 77) from (hb_.block _ (blk_lt HQ_191.out)).trans HQ_191.out); clear HQ_191; have HQ_191 := N_; clear N_
 clear hb_
 obtain ⟨kh_207, hh_208⟩ := (heldFeed_ev r0.length r1 r2 r3 r4 1 (by omega) (by omega) (by omega)).rounds; rw [← hm_.out] at hh_208; replace hh_208 := Aside0.mk hh_208
 have q_209 := blk_cell HQ_79.out 0; simp at q_209
 have q_210 := blk_cell HQ_79.out 1; simp at q_210
 have q_211 := blk_cell HQ_79.out 2; simp at q_211
 have q_212 := blk_cell HQ_79.out 3; simp at q_212
 have q_213 := blk_cell HQ_79.out 4; simp at q_213
 go_wp2_with fail
 clear q_209 q_210 q_211 q_212 q_213
 refine (laws_heldFeed.R kh_207 _ _ _ _ r1 r2 r3 r4 1 m_ _ _ _ (by repeat (first | exact HO_76.out | (with_reducible refine Kd.R_drewN ?_ _) | (with_reducible refine Kd.R_drew ?_))) hh_208.out).mono ?_
 rintro e_ w_214 ⟨rfl, hb_⟩
 have hz_ : w_205.heap.size ≤ w_214.heap.size := hb_.size; have HZ_215 := Aside0.mk hz_; clear hz_
 have N_ := Aside0.mk (Kd.R_below (by repeat (first | exact HO_42.out | (with_reducible refine Kd.R_drewN ?_ _) | (with_reducible refine Kd.R_drew ?_))) hb_); clear HO_42; have HO_42 := N_; clear N_
 have N_ := Aside0.mk (Kd.R_below (by repeat (first | exact HO_76.out | (with_reducible refine Kd.R_drewN ?_ _) | (with_reducible refine Kd.R_drew ?_))) hb_); clear HO_76; have HO_76 := N_; clear N_
 have N_ := Aside0.mk (Kd.R_below (by repeat (first | exact HO_188.out | (with_reducible refine Kd.R_drewN ?_ _) | (with_reducible refine Kd.R_drew ?_))) hb_); clear HO_188; have HO_188 := N_; clear N_
 have N_ := Aside0.mk (show Below w.heap.size w w_214 from Below.trans (by repeat (first | exact HB.out | apply pw_below_drewN | apply below_drew)) (Below.mono hb_ HB.out.size)); clear HB; have HB := N_; clear N_
 have N_ := Aside0.mk (show w_214.heap[w.heap.size]? = some (Obj.cells #[.slice A0 l0.length c0, .int .i64 a0, .bool b0, .int .i64 a1, .int .i64 a2] 73) from (hb_.block _ (blk_lt HQ_12.out)).trans HQ_12.out); clear HQ_12; have HQ_12 := N_; clear N_
 have N_ := Aside0.mk (show w_214.heap[w_38.heap.size]? = some (Obj.cells #[.slice A_40 r0.length c_41, .int .i64 r1, .bool r2, .int .i64 r3, .int .i64 r4] 77) from (hb_.block _ (blk_lt HQ_45.out)).trans HQ_45.out); clear HQ_45; have HQ_45 := N_; clear N_
 have N_ := Aside0.mk (show w_214.heap[w_52.heap.size]? = some (Obj.cells #[.slice A_54 l0.length c_55, .int .i64 a0, .bool b0, .int .i64 a1, .int .i64 a2] 77) from (hb_.block _ (blk_lt HQ_59.out)).trans HQ_59.out); clear HQ_59; have HQ_59 := N_; clear N_
 have N_ := Aside0.mk (show w_214.heap[w_72.heap.size]? = some (Obj.cells #[.slice A_74 r0.length c_75, .int .i64 r1, .bool r2, .int .i64 r3, .int .i64 r4] 77) from (hb_.block _ (blk_lt HQ_79.out)).trans HQ_79.out); clear HQ_79; have HQ_79 := N_; clear N_
 have N_ := Aside0.mk (show w_214.heap[w_184.heap.size]? = some (Obj.cells #[.slice A_186 r0.length c_187, .int .i64 r1, .bool r2, .int .i64 r3, .int .i64 r4] 77) from (hb_.block _ (blk_lt HQ_191.out)).trans HQ_191.out); clear HQ_191; have HQ_191 := N_; clear N_
 clear hb_
 go_wp2
 go_ret
 exact ⟨rfl, by repeat (first | exact HB.out | apply pw_below_drewN | apply below_drew)⟩
end Go.Proofs.Ytcjjmfpkhhdmlaa.G

/- The law FnExactPush: for every feed and every piece the program's Push answers as the reference's, writes into neither and keeps nothing of them, and its answer owns its memory. No condition. -/
namespace Go.Proofs.Ytcjjmfpkhhdmlaa.G
open Go.RowKit Go.Proofs.YtcjjmfpkhhdmlaaW.PrintWords Go.Proofs.YtcjjmfpkhhdmlaaW.PrintLast Go.Proofs.YtcjjmfpkhhdmlaaW.PrintMore
attribute [local go_sem] max2_int min2_int max_two min_two max_three min_three max_four min_four   -- for this text's walks alone
theorem fnExactPush_walked : True := trivial
end Go.Proofs.Ytcjjmfpkhhdmlaa.G

namespace Go.Proofs.Ytcjjmfpkhhdmlaa.G
open Go.RowKit Go.Proofs.YtcjjmfpkhhdmlaaW.PrintWords Go.Proofs.YtcjjmfpkhhdmlaaW.PrintLast Go.Proofs.YtcjjmfpkhhdmlaaW.PrintMore
attribute [local go_sem] max2_int min2_int max_two min_two max_three min_three max_four min_four   -- for this text's walks alone
--import Derived.Deep.Slices
--import Derived.ChangeArms
/-! arguments of any of our kinds, opened: what reads as data reads as a value of the kind -/
/-- type t reads as kind d, with values that are wf -/
def Opens {α : Type} (P : Program) (t : TypeId) (d : Kd α) (wf : α → Prop) : Prop :=
 P.cellsOf t = d.sz ∧ ∀ {H : Type} {enc : TypeId × Value → H} {w : World} {base fuel : Nat} {cs : List Value} {x : DataW H × List MemPlace}, DataW.trod enc P w base (fun _ => true) true fuel t cs = some x → ∃ a, d.K w a cs ∧ wf a
theorem opens_int {P : Program} {t : TypeId} {k : IntKind} (hc : P.cellsOf t = 1) (ht : P.underlying t = some (.int k)) : Opens P t (Kd.int k) (fun n => (Lit.int k n).wf = true) :=
 ⟨hc, fun h => by
  obtain ⟨n, rfl, _, hw⟩ := DataW.trod_int ht h
  exact ⟨n, rfl, hw⟩⟩
theorem opens_bool {P : Program} {t : TypeId} (hc : P.cellsOf t = 1) (ht : P.underlying t = some .bool) : Opens P t Kd.bool (fun _ => True) :=
 ⟨hc, fun h => by
  obtain ⟨b, rfl, _⟩ := DataW.trod_bool ht h
  exact ⟨b, rfl, trivial⟩⟩
theorem opens_slice {α : Type} {P : Program} {t e : TypeId} {d : Kd α} {wf : α → Prop} (hc : P.cellsOf t = 1) (ht : P.underlying t = some (.slice e)) (h0 : Opens P e d wf) : Opens P t (Kd.slice e d) (fun l => l.length ≤ 9223372036854775807 ∧ ∀ x ∈ l, wf x) :=
 ⟨hc, fun {H enc w base fuel cs x} h => by
  rcases Go.Deep.open_slice ht h with ⟨rfl, _⟩ | ⟨a, len, cap, m, n, D, Pl, rfl, hb, hl, hm, hmm, rfl, hx⟩
  ·exact ⟨[], ⟨none, 0, rfl, Nat.le_refl _, rfl, by simp, fun h => absurd h (by simp)⟩, by simp, by simp⟩
  ·simp only [if_true] at hmm
   subst hmm
   have build : ∀ n, n ≤ len → ∃ l : List α, l.length = n ∧ (∀ j p, l[j]? = some p → ∃ c, c.length = d.sz ∧ d.K w p c ∧ ∀ i u, c[i]? = some u → w.cell? (a.add (j * d.sz + i)) = some u) ∧ ∀ x ∈ l, wf x := by
    intro n
    induction n with
    | zero => exact fun _ => ⟨[], rfl, by simp, by simp⟩
    | succ n ih =>
     intro hn
     obtain ⟨l, hl1, hl2, hl3⟩ := ih (by omega)
     obtain ⟨cs', h1, h2⟩ := hx n (by omega)
     obtain ⟨b, hk, hw⟩ := h0.2 h2
     obtain ⟨_, hcl, hcell⟩ := World.cells?_some h1
     rw [h0.1] at hcl hcell
     refine ⟨l ++ [b], by simp [hl1], fun j p hj => ?_, fun x hx => ?_⟩
     ·rcases Nat.lt_or_ge j l.length with hlt | hge
      ·rw [List.getElem?_append_left hlt] at hj
       exact hl2 j p hj
      ·obtain rfl : j = l.length := by
        have := (List.getElem?_eq_some_iff.1 hj).1
        simp at this; omega
       obtain rfl : b = p := by simpa using hj
       refine ⟨cs', hcl, hk, fun i u hu => ?_⟩
       have hi : i < d.sz := by rw [← hcl]; exact (List.getElem?_eq_some_iff.1 hu).1
       have := hcell i hi
       rw [Go.Deep.add_add] at this
       rw [hl1, this, hu]
     ·rcases List.mem_append.1 hx with hx | hx
      ·exact hl3 x hx
      ·rw [List.mem_singleton.1 hx]; exact hw
   obtain ⟨l, hl1, hl2, hl3⟩ := build len (Nat.le_refl _)
   subst hl1
   have hm' : m ≤ 9223372036854775807 := hm
   exact ⟨l, ⟨some a, m, rfl, hl, rfl, by omega, fun _ => ⟨a, rfl, hl2⟩⟩, by omega, hl3⟩⟩
/-- a slice argument, opened -/
theorem open_slice_arg {α H : Type} {enc : TypeId × Value → H} {P : Program} {W : World} {base : Nat} {t e : TypeId} {d : Kd α} {wf : List α → Prop} (ho : Opens P t (Kd.slice e d) wf) {a : Option Addr} {len cap : Nat} {dd : DataW H} {ps : List MemPlace}
  (h : DataW.Trod enc P W base (fun _ => true) true t (.slice a len cap) dd ps) : ∃ l : List α, len = l.length ∧ l.length ≤ cap ∧ d.C W a l.length l ∧ wf l := by
 obtain ⟨fuel, hf⟩ := h
 obtain ⟨l, ⟨A, c, e1, hl, hC⟩, hw⟩ := ho.2 hf
 injection e1 with e1 _
 injection e1 with e1 e2 e3
 subst e1; subst e2; subst e3
 exact ⟨l, rfl, hl, hC, hw⟩
end Go.Proofs.Ytcjjmfpkhhdmlaa.G

namespace Go.Proofs.Ytcjjmfpkhhdmlaa.fnExactPush
open Go.ChangeShapes Go.WideShapes Go.ChangeAt Go.RowKit Go.Proofs.Ytcjjmfpkhhdmlaa.G Go.Proofs.YtcjjmfpkhhdmlaaW.PrintWords
open Go.ChangeMaps (open_string shut_string)
theorem own : ownKnob Try.prog.godebug = none := by kernel_rfl
theorem laidOut : laidOutB Try.prog = true := by kernel_rfl
set_option maxRecDepth 100000 in
theorem open_fault {H : Type} {enc : TypeId × Value → H} {w : World} {base fuel : Nat} {cs : List Value} {x : DataW H × List MemPlace} (h : DataW.trod enc Try.prog w base (fun _ => true) true fuel 71 cs = some x) : ∃ a b : Int, cs = [.int .i64 a, .int .i64 b] := by
 obtain ⟨xs, n, _, _, hl, hlen, hf⟩ := DataW.trod_struct Try.underlying71 h
 have e : Try.prog.cellsOf 71 = 2 := by kernel_rfl
 have e3 : Try.prog.cellsOf 3 = 1 := by kernel_rfl
 rw [e] at hl
 have hlen : xs.length = 2 := hlen
 match cs, hl, xs, hlen with
 | [c0, c1], _, [y0, y1], _ =>
  have h0 : DataW.trod enc Try.prog w base (fun _ => true) true n 3 (([c0, c1].drop 0).take (Try.prog.cellsOf 3)) = some y0 := hf 0 _ rfl
  have h1 : DataW.trod enc Try.prog w base (fun _ => true) true n 3 (([c0, c1].drop 1).take (Try.prog.cellsOf 3)) = some y1 := hf 1 _ rfl
  rw [e3] at h0 h1
  obtain ⟨a, ha, _⟩ := (opens_int e3 Try.underlying3).2 (x := y0) h0
  obtain ⟨b, hb, _⟩ := (opens_int e3 Try.underlying3).2 (x := y1) h1
  have ha' : [c0] = [Value.int .i64 a] := ha
  have hb' : [c1] = [Value.int .i64 b] := hb
  injection ha' with ha' _
  injection hb' with hb' _
  exact ⟨a, b, by rw [ha', hb']⟩
set_option maxRecDepth 100000 in
theorem open_feed {H : Type} {enc : TypeId × Value → H} {w : World} {base fuel : Nat} {cs : List Value} {x : DataW H × List MemPlace} (h : DataW.trod enc Try.prog w base (fun _ => true) true fuel 73 cs = some x) :
  ∃ (A : Option Addr) (c : Nat) (l : List Int) (n : Int) (o : Bool) (fc fa : Int), cs = [.slice A l.length c, .int .i64 n, .bool o, .int .i64 fc, .int .i64 fa] ∧ l.length ≤ c ∧ Kd.C (Kd.int .u8) w A l.length l ∧ (l.length ≤ 9223372036854775807 ∧ ∀ x ∈ l, (Lit.int .u8 x).wf = true) := by
 obtain ⟨xs, n, _, _, hl, hlen, hf⟩ := DataW.trod_struct Try.underlying73 h
 have e : Try.prog.cellsOf 73 = 5 := by kernel_rfl
 have e3 : Try.prog.cellsOf 3 = 1 := by kernel_rfl
 have e4 : Try.prog.cellsOf 4 = 1 := by kernel_rfl
 have e23 : Try.prog.cellsOf 23 = 1 := by kernel_rfl
 have e71 : Try.prog.cellsOf 71 = 2 := by kernel_rfl
 rw [e] at hl
 have hlen : xs.length = 4 := hlen
 match cs, hl, xs, hlen with
 | [c0, c1, c2, c3, c4], _, [y0, y1, y2, y3], _ =>
  have h0 : DataW.trod enc Try.prog w base (fun _ => true) true n 23 (([c0, c1, c2, c3, c4].drop 0).take (Try.prog.cellsOf 23)) = some y0 := hf 0 _ rfl
  have h1 : DataW.trod enc Try.prog w base (fun _ => true) true n 3 (([c0, c1, c2, c3, c4].drop 1).take (Try.prog.cellsOf 3)) = some y1 := hf 1 _ rfl
  have h2 : DataW.trod enc Try.prog w base (fun _ => true) true n 4 (([c0, c1, c2, c3, c4].drop 2).take (Try.prog.cellsOf 4)) = some y2 := hf 2 _ rfl
  have h3 : DataW.trod enc Try.prog w base (fun _ => true) true n 71 (([c0, c1, c2, c3, c4].drop 3).take (Try.prog.cellsOf 71)) = some y3 := hf 3 _ rfl
  rw [e23] at h0
  rw [e3] at h1
  rw [e4] at h2
  rw [e71] at h3
  obtain ⟨l, ⟨A, c, hA, hlc, hC⟩, hw⟩ := (opens_slice e23 Try.underlying23 (opens_int (by kernel_rfl) Try.underlying5)).2 (x := y0) h0
  obtain ⟨n1, hn1, _⟩ := (opens_int e3 Try.underlying3).2 (x := y1) h1
  obtain ⟨o, ho, _⟩ := (opens_bool e4 Try.underlying4).2 (x := y2) h2
  obtain ⟨fc, fa, hff⟩ := open_fault (x := y3) h3
  have hA' : [c0] = [Value.slice A l.length c] := hA
  have hn' : [c1] = [Value.int .i64 n1] := hn1
  have ho' : [c2] = [Value.bool o] := ho
  have hf' : [c3, c4] = [Value.int .i64 fc, Value.int .i64 fa] := hff
  injection hA' with hA' _
  injection hn' with hn' _
  injection ho' with ho' _
  injection hf' with hf1 hf2
  injection hf2 with hf2 _
  exact ⟨A, c, l, n1, o, fc, fa, by rw [hA', hn', ho', hf1, hf2], hlc, hC, hw⟩
set_option maxRecDepth 100000 in
theorem lifted (os : Os) (started : os.Started) (H : Type) (enc : TypeId × Value → H) :
  ReturnsInHanded {} Try.checked os 13 .any (Rows.fnExactPushSpec.pre6 enc Try.prog Try.f13 Rows.fnExactPushRow.domain false) (Rows.fnExactPushSpec.post enc Try.prog Try.f13 false true false false) := by
 refine returnsInHanded_of_change_sized (C := Try.checked) own started (by kernel_rfl) Try.func13
  (ChangeSpec.witness6 (enc := enc) (C := Try.checked) false ⟨#[], #[.agg #[.slice none 0 0, .int .i64 0, .bool false, .int .i64 0, .int .i64 0], .slice none 0 0], []⟩ 8 (by kernel_rfl) (by kernel_rfl) (by kernel_rfl) (by kernel_rfl)) ?_
 intro W base args ds gs before hval0 hW hcnd hsz0 _
 have hval : ∀ (j : Nat) t v, Try.f13.params[j]? = some t → args[j]? = some v → Value.okWide Try.prog W .any base t v := hval0
 have hW' := hW
 obtain ⟨p, q, hA0, hV, rfl, hfz, hnd⟩ := hW
 have hA : DataW.TrodAll enc Try.prog W 0 (fun _ => true) true Try.f13.params.toList args.toList ds p := hA0
 rw [Try.params13] at hA hval
 obtain ⟨v0, vs0, d0, ds0, p0, q0, hargs, rfl, rfl, h0, r0⟩ := trodAll_cons hA
 obtain ⟨v1, vs1, d1, ds1, p1, q1, rfl, rfl, rfl, h1, r1⟩ := trodAll_cons r0
 obtain ⟨rfl, rfl, rfl⟩ := trodAll_nil r1
 obtain rfl : args = #[v0, v1] := by cases args; simp_all
 obtain ⟨rfl, rfl⟩ := trodVars_none hV
 obtain ⟨cs0, rfl, hcs0⟩ := okWide_struct Try.underlying73 (hval 0 73 v0 rfl rfl)
 have k0 := h0
 have lt0 : ∀ x ∈ p0, x.block < W.heap.size := by obtain ⟨m, hm⟩ := k0; exact DataW.trod_lt m _ _ _ hm
 obtain ⟨fuel0, hf0⟩ := h0
 obtain ⟨A, c, l, n, o, fc, fa, hcs, hl, hC, hw⟩ := open_feed hf0
 have hcs2 : cs0 = #[.slice A l.length c, .int .i64 n, .bool o, .int .i64 fc, .int .i64 fa] := by
  have : cs0.toList = [.slice A l.length c, .int .i64 n, .bool o, .int .i64 fc, .int .i64 fa] := hcs
  cases cs0; simp_all
 subst hcs2
 obtain ⟨a1, len1, cap1, rfl⟩ := okWide_slice Try.underlying23 (hval 1 23 v1 rfl rfl)
 have k1 := h1
 have lt1 : ∀ x ∈ p1, x.block < W.heap.size := by obtain ⟨m, hm⟩ := k1; exact DataW.trod_lt m _ _ _ hm
 obtain ⟨l1, rfl, hl1, hC1, w1⟩ := open_slice_arg (opens_slice (by kernel_rfl) Try.underlying23 (opens_int (by kernel_rfl) Try.underlying5)) h1
 clear hA0 hval0 hsz0
 refine (laws_FnExactPush.law A c l n o fc fa _ _ l1 W hC hl hC1 hl1 hw w1).mono fun e W' ⟨he, bel0⟩ => ?_
 have bel : Below W.heap.size W W' := bel0
 subst he
 exact ⟨_, rfl, _, _, _, [], _, [], hW', trodAll_mk1 (shut_bool Try.underlying4 _), (trodAll_cons_mk (Below.trod laidOut (by kernel_rfl) (of_decide_eq_true (by kernel_rfl)) k0 bel lt0) (trodAll_cons_mk (Below.trod laidOut (by kernel_rfl) (of_decide_eq_true (by kernel_rfl)) k1 bel lt1) trodAll_mk0)), rfl, bel.frame _, fun h => by cases h⟩
theorem over : Rows.fnExactPushRow.holds Try.pinned (OpenSpec.ofChange Rows.fnExactPushSpec) :=
 OpenClaim.holds_of_wide 13 Try.f13 rfl rfl rfl rfl rfl rfl rfl ⟨rfl, rfl, rfl, rfl, rfl⟩ rfl rfl rfl rfl rfl (by kernel_rfl) Try.func13 (by kernel_rfl)
  (of_decide_eq_true (by kernel_rfl)) (by unfold Func.isWrapper; first | (rw [if_pos (by decide +kernel)]; kernel_rfl) | (rw [if_neg (by decide +kernel)]; exact ⟨rfl, rfl⟩))
  (fun os started H enc _ => lifted os started H enc)
theorem proved : Rows.FnExactPushSaid := over
#print axioms proved
end Go.Proofs.Ytcjjmfpkhhdmlaa.fnExactPush
namespace Go.Proofs.Ytcjjmfpkhhdmlaa
/-- The row, under a short name, for the claim. -/
theorem fnExactPush_holds : Rows.FnExactPushSaid := fnExactPush.proved
end Go.Proofs.Ytcjjmfpkhhdmlaa
