import Derived.Test.YtcjjmfpkhhdmlaaMFnCodesBack2
set_option linter.unusedVariables false
set_option linter.unusedSimpArgs false
namespace Go.Proofs.Ytcjjmfpkhhdmlaa.G
open Go.RowKit Go.Proofs.YtcjjmfpkhhdmlaaW.PrintWords Go.Proofs.YtcjjmfpkhhdmlaaW.PrintLast Go.Proofs.YtcjjmfpkhhdmlaaW.PrintMore
attribute [local go_sem] max2_int min2_int max_two min_two max_three min_three max_four min_four   -- for this text's walks alone
mutual
def spec_BestLens.l0 : Nat → List Int → List Int → List Int → Int → Option (List Int)
 | 0, _, _, _, _ => none
 | k + 1, x0, x3, x4, x5 => if x5 < (x0.length : Int) then (if 0 ≤ x5 then (if (rd x0 x5) = 0 then (spec_BestLens.l0 k x0 x3 x4 (wrap64 (x5 + 1))) else (spec_BestLens.l1 k x0 x3 x4 x5 (x4.length : Int))) else (none)) else (if (x4.length : Int) = 1 then (if 0 < (x4.length : Int) then (if 0 ≤ (rd x4 0) then (if (rd x4 0) < (x3.length : Int) then (some (x3.set ((rd x4 0) : Int).toNat 1)) else (none)) else (none)) else (none)) else (spec_BestLens.l2 k x0 x3 x4 (x4.length : Int) (([] : List (S167))) 0))
def spec_BestLens.l1 : Nat → List Int → List Int → List Int → Int → Int → Option (List Int)
 | 0, _, _, _, _, _ => none
 | k + 1, x0, x3, x4, x5, x6 => if x6 > 0 then (if 0 ≤ (wrap64 (x6 - 1)) then (if (wrap64 (x6 - 1)) < (x4.length : Int) then (if 0 ≤ (rd x4 (wrap64 (x6 - 1))) then (if (rd x4 (wrap64 (x6 - 1))) < (x0.length : Int) then (if 0 ≤ x5 then (if x5 < (x0.length : Int) then (if (rd x0 (rd x4 (wrap64 (x6 - 1)))) > (rd x0 x5) then (spec_BestLens.l1 k x0 x3 x4 x5 (wrap64 (x6 - 1))) else ((some (([] : List Int) : List Int)).bind fun y651 => (if 0 ≤ x6 then (if x6 ≤ (x4.length : Int) then ((some (x4.take (x6 : Int).toNat : List Int)).bind fun y654 => (if y651.length + y654.length < 17592186044416 then ((some (y651 ++ y654 : List Int)).bind fun y659 => (if y659.length < 17592186044416 then ((some (y659 ++ [x5] : List Int)).bind fun y662 => ((some (x4.drop (x6 : Int).toNat : List Int)).bind fun y665 => (if y662.length + y665.length < 17592186044416 then (spec_BestLens.l0 k x0 x3 (y662 ++ y665) (wrap64 (x5 + 1))) else (none)))) else (none))) else (none))) else (none)) else (none)))) else (none)) else (none)) else (none)) else (none)) else (none)) else (none)) else ((some (([] : List Int) : List Int)).bind fun y673 => (if 0 ≤ x6 then (if x6 ≤ (x4.length : Int) then ((some (x4.take (x6 : Int).toNat : List Int)).bind fun y676 => (if y673.length + y676.length < 17592186044416 then ((some (y673 ++ y676 : List Int)).bind fun y681 => (if y681.length < 17592186044416 then ((some (y681 ++ [x5] : List Int)).bind fun y684 => ((some (x4.drop (x6 : Int).toNat : List Int)).bind fun y687 => (if y684.length + y687.length < 17592186044416 then (spec_BestLens.l0 k x0 x3 (y684 ++ y687) (wrap64 (x5 + 1))) else (none)))) else (none))) else (none))) else (none)) else (none)))
def spec_BestLens.l2 : Nat → List Int → List Int → List Int → Int → List (S167) → Int → Option (List Int)
 | 0, _, _, _, _, _, _ => none
 | k + 1, x0, x3, x4, x8, x9, x10 => if x10 < x8 then (if 0 ≤ x8 then (if (x8 : Int).toNat ≤ 35184372088832 then ((some (List.replicate (x8 : Int).toNat 0 : List Int)).bind fun y700 => (if 0 ≤ x10 then (if x10 < (y700.length : Int) then (if x10 < (x4.length : Int) then (if 0 ≤ (rd x4 x10) then (if (rd x4 x10) < (x0.length : Int) then (if x9.length < 4398046511104 then (spec_BestLens.l2 k x0 x3 x4 x8 (x9 ++ [(⟨rd x0 (rd x4 x10), (y700.set (x10 : Int).toNat 1)⟩ : S167)]) (wrap64 (x10 + 1))) else (none)) else (none)) else (none)) else (none)) else (none)) else (none))) else (none)) else (none)) else (spec_BestLens.l3 k x3 x4 x8 x9 x9 1)
def spec_BestLens.l3 : Nat → List Int → List Int → Int → List (S167) → List (S167) → Int → Option (List Int)
 | 0, _, _, _, _, _, _ => none
 | k + 1, x3, x4, x8, x9, x12, x13 => if x13 < 16 then ((spec_l08Merge.f k x9 x12).bind fun t709 => (spec_BestLens.l3 k x3 x4 x8 x9 t709 (wrap64 (x13 + 1)))) else (spec_BestLens.l4 k x3 x4 x8 x12 0)
def spec_BestLens.l4 : Nat → List Int → List Int → Int → List (S167) → Int → Option (List Int)
 | 0, _, _, _, _, _ => none
 | k + 1, x3, x4, x8, x12, x14 => if x14 < (wrap64 ((wrap64 (2 * x8)) - 2)) then (spec_BestLens.l5 k x3 x4 x8 x12 x14 0) else (some x3)
def spec_BestLens.l5 : Nat → List Int → List Int → Int → List (S167) → Int → Int → Option (List Int)
 | 0, _, _, _, _, _, _ => none
 | k + 1, x3, x4, x8, x12, x14, x15 => if x15 < x8 then (if 0 ≤ x15 then (if x15 < (x4.length : Int) then (if 0 ≤ (rd x4 x15) then (if (rd x4 x15) < (x3.length : Int) then (if 0 ≤ x14 then (if x14 < (x12.length : Int) then (if x15 < (((rd_T167 x12 x14).f1).length : Int) then (spec_BestLens.l5 k (x3.set ((rd x4 x15) : Int).toNat (wrap64 ((rd x3 (rd x4 x15)) + (rd ((rd_T167 x12 x14).f1) x15)))) x4 x8 x12 x14 (wrap64 (x15 + 1))) else (none)) else (none)) else (none)) else (none)) else (none)) else (none)) else (none)) else (spec_BestLens.l4 k x3 x4 x8 x12 (wrap64 (x14 + 1)))
end
def spec_BestLens.f (k : Nat) (l0 : List Int) : Option (List Int) := (spec_l08Freqs.f k l0).bind fun t637 => (if t637 = true then (if 0 ≤ (l0.length : Int) then (if ((l0.length : Int) : Int).toNat ≤ 35184372088832 then (spec_BestLens.l0 k l0 (List.replicate ((l0.length : Int) : Int).toNat 0) (([] : List Int)) 0) else (none)) else (none)) else (some (([] : List Int))))
def spec_BestLens.T10 : Bool × List (List Nat × List Nat) := (true, [([], []), ([0], [0]), ([1], [1]), ([2], [2]), ([2], [2]), ([2], [2]), ([5, 2], [2, 5]), ([4, 6, 2], [2, 4, 6]), ([7, 2], [2, 7]), ([3, 8, 2], [2, 3, 8]), ([9, 2], [2, 9]), ([2], [2]), ([2], [2]), ([11, 12, 2], [2, 11, 12]), ([13, 2], [2, 13]), ([10, 14, 2], [2, 10, 14]), ([2, 15], [2, 15])])
def spec_BestLens.B10 : List Nat := [0, 1, 3, 7, 7, 7, 39, 119, 247, 511, 1023, 7, 7, 6151, 14343, 32767, 65535]
theorem spec_BestLens.tab10 : rtab .any (opsOf Try.f154 10) = spec_BestLens.T10 := by kernel_rfl
theorem spec_BestLens.bits10 : waitsOk spec_BestLens.T10.2 spec_BestLens.B10 = true := by kernel_rfl
def spec_BestLens.T37 : Bool × List (List Nat × List Nat) := (true, [([], []), ([], []), ([], []), ([1, 2], [1, 2]), ([3], [3]), ([], []), ([], []), ([], []), ([6, 7], [6, 7]), ([8], [8]), ([5, 9], [5, 9]), ([10], [10]), ([], []), ([], []), ([12, 13], [12, 13]), ([14], [14]), ([15], [15]), ([], []), ([16, 17], [16, 17]), ([18], [18]), ([11, 19], [11, 19]), ([0, 4, 0, 1, 2, 3, 4, 5, 6, 7, 8, 9, 10, 11, 12, 13, 14, 15, 16, 17, 18, 19, 20], [0, 4]), ([21, 20, 0, 1, 2, 3, 4, 5, 6, 7, 8, 9, 10, 11, 12, 13, 14, 15, 16, 17, 18, 19, 20], [20, 21])])
def spec_BestLens.B37 : List Nat := [0, 0, 0, 6, 14, 0, 0, 0, 192, 448, 992, 2016, 0, 0, 12288, 28672, 61440, 0, 258048, 520192, 1048544, 2097151, 4194303]
theorem spec_BestLens.tab37 : rtab .any (opsOf Try.f154 37) = spec_BestLens.T37 := by kernel_rfl
theorem spec_BestLens.bits37 : waitsOk spec_BestLens.T37.2 spec_BestLens.B37 = true := by kernel_rfl
set_option maxHeartbeats 8000000 in
set_option maxRecDepth 100000 in
theorem spec_BestLens.calls (k : Nat) (A0 : Option Addr) (c0 : Nat) (l0 : List Int) (r : List Int) (w : World) (hr0 : Kd.C (Kd.int .i64) w A0 l0.length l0) (hc0 : l0.length ≤ c0) (h : spec_BestLens.f k l0 = some r) :
  Calls Try.prog 154 #[.slice A0 l0.length c0] w fun e w' => ∃ v0_ : Value, e = .returned (v0_) ∧ Kd.R (Kd.int .i64) 3 w' w.heap.size (fun _ => True) v0_ r ∧ Below w.heap.size w w' := by
 have hu167 := Try.underlying167
 have HR0 := Aside0.mk hr0
 have HC0 := Aside0.mk hc0
 clear hr0 hc0
 have HB := Aside0.mk (Below.refl w.heap.size w)
 have H : ((spec_l08Freqs.f k l0).bind fun t637 => (if t637 = true then (if 0 ≤ (l0.length : Int) then (if ((l0.length : Int) : Int).toNat ≤ 35184372088832 then (spec_BestLens.l0 k l0 (List.replicate ((l0.length : Int) : Int).toNat 0) (([] : List Int)) 0) else (none)) else (none)) else (some (([] : List Int))))) = some r := h
 clear h
 replace H := Option.bind_eq_some_iff.mp H
 obtain ⟨t637, A20, H⟩ := H
 replace H : (if t637 = true then (if 0 ≤ (l0.length : Int) then (if ((l0.length : Int) : Int).toNat ≤ 35184372088832 then (spec_BestLens.l0 k l0 (List.replicate ((l0.length : Int) : Int).toNat 0) (([] : List Int)) 0) else (none)) else (none)) else (some (([] : List Int)))) = some r := H
 have A2 := Aside0.mk A20
 clear A20
 by_cases c3 : t637 = true
 ·subst c3
  have H1 : (if 0 ≤ (l0.length : Int) then (if ((l0.length : Int) : Int).toNat ≤ 35184372088832 then (spec_BestLens.l0 k l0 (List.replicate ((l0.length : Int) : Int).toNat 0) (([] : List Int)) 0) else (none)) else (none)) = some r := by rw [if_pos rfl] at H; exact H
  clear H
  have H := H1
  clear H1
  by_cases c4 : 0 ≤ (l0.length : Int)
  ·rw [if_pos c4] at H
   have c4b0 := eq_true c4
   have c4b1 : decide (0 ≤ (l0.length : Int)) = true := decide_eq_true c4
   clear c4
   by_cases c5 : ((l0.length : Int) : Int).toNat ≤ 35184372088832
   ·rw [if_pos c5] at H
    have c5b0 := eq_true c5
    have c5b1 : decide (((l0.length : Int) : Int).toNat ≤ 35184372088832) = true := decide_eq_true c5
    clear c5
    obtain ⟨y641, hy641⟩ : ∃ y_ : List Int, y_ = (List.replicate ((l0.length : Int) : Int).toNat 0) := ⟨_, rfl⟩
    replace H : (spec_BestLens.l0 k l0 y641 (([] : List Int)) 0) = some r := by first | (rw [hy641]; with_reducible exact H) | (have H2_ := (Option.bind_some _ _).symm.trans H; rw [hy641]; with_reducible exact H2_) | (have H2_ := (Option.bind_some _ _).symm.trans H; with_reducible exact H2_) | with_reducible exact H | (rw [hy641]; exact H) | exact H
    have Ny641 := Aside0.mk hy641
    clear hy641
    obtain ⟨y644, hy644⟩ : ∃ y_ : List Int, y_ = (([] : List Int)) := ⟨_, rfl⟩
    replace H : (spec_BestLens.l0 k l0 y641 y644 0) = some r := by first | (rw [hy644]; with_reducible exact H) | (have H2_ := (Option.bind_some _ _).symm.trans H; rw [hy644]; with_reducible exact H2_) | (have H2_ := (Option.bind_some _ _).symm.trans H; with_reducible exact H2_) | with_reducible exact H | (rw [hy644]; exact H) | exact H
    have Ny644 := Aside0.mk hy644
    clear hy644
    have H' := Aside0.mk H
    clear H
    go_enter Try.func154, Try.ntmps154
    go_wp2_with (first | ((with_reducible refine gate_callee (f := 173) rfl ?_); refine goesL_ (some 17) rfl rfl Try.func173 (by kernel_rfl) rfl #[.slice A0 l0.length c0] rfl (by (try simp only [List.map_toArray, List.map_cons, List.map_nil]); first | done | rfl | (simp only [List.length_drop, List.length_take]; rfl)) ?_; (with_reducible refine (spec_l08Freqs.calls k _ _ l0 true _ ?side1 ?side2 A2.out).mono ?_); (case side1 => repeat (first | exact HR0.out | (with_reducible refine Kd.C_alloc ?_ _) | (with_reducible refine Kd.C_drewN ?_ _) | (with_reducible refine Kd.C_drew ?_))); (case side2 => exact HC0.out); rintro e w' ⟨rfl, ⟨nd, rfl⟩⟩; refine ⟨_, rfl, ?_⟩) | ((with_reducible refine gate_dst (N := 22) rfl ?_); refine Kd.R_make (Kd.int .i64) _ 3 rfl (N := 22) rfl 22 _ _ rfl (l0.length : Int) rfl rfl Try.underlying22 (.int .i64 0) 8 info3 rfl (by decide) (by omega) 0 (ok := fun _ => True) (okp := fun _ => True) rfl (fun _ hk => hk) trivial (of_decide_eq_true (by first | (with_reducible assumption) | assumption)) (Nat.le_trans (Nat.mul_le_mul_right _ (of_decide_eq_true (by first | (with_reducible assumption) | assumption) : (l0.length : Int).toNat ≤ 35184372088832)) (by omega)) (Below.refl _ _) (Nat.le_refl _) ?_; intro v642 w6 ho7 hb hg_ hnew_; clear hg_ hnew_; (first | rw [← Ny641.out] at ho7 | (simp only [Int.reduceToNat] at ho7; rw [← Ny641.out] at ho7)); have n0_ := Aside0.mk (Kd.R_lower ho7 (below_size (by repeat (first | (with_reducible first | exact HB.out | apply below_alloc | apply pw_below_drewN | apply below_drew1) | exact HB.out)))); have n1_ := Aside0.mk (below_step (by repeat (first | (with_reducible first | exact HB.out | apply below_alloc | apply pw_below_drewN | apply below_drew1) | exact HB.out)) hb); clear HB; have HO643 := n0_; have HB := n1_; clear n0_ n1_; clear hb ho7) | ((with_reducible refine gate_dst (N := 23) rfl ?_); refine Kd.R_lit (Kd.int .i64) _ 3 ?hg (N := 23) ?hd (xs := ([] : List Int)) (inner := []) (ok := fun _ => True) (okp := fun _ => True) ?hr ?hp (fun _ hk => hk) trivial (Below.refl _ _) (Nat.le_refl _) (by simp) ?_; (case hd => rfl); (case hg => rfl); (case hr => first | (go_simp; done) | (go_simp; rfl)); (case hp => exact (Reps.none _ _)); intro v645 w8 ho9 hb hg_ hnew_; clear hg_ hnew_; (first | rw [← Ny644.out] at ho9 | (simp only [Int.reduceToNat] at ho9; rw [← Ny644.out] at ho9)); have n0_ := Aside0.mk (Kd.R_elder' (by (with_reducible repeat (first | apply Kd.R_alloc | apply Kd.R_drewN | apply Kd.R_drew)); exact HO643.out) (Kd.R_base ho9) hb); have n1_ := Aside0.mk (Kd.R_lower (Kd.R_new' ho9 (Kd.R_lt (by (with_reducible repeat (first | apply Kd.R_alloc | apply Kd.R_drewN | apply Kd.R_drew)); exact HO643.out))) (below_size (by repeat (first | (with_reducible first | exact HB.out | apply below_alloc | apply pw_below_drewN | apply below_drew1) | exact HB.out)))); have n2_ := Aside0.mk (below_step (by repeat (first | (with_reducible first | exact HB.out | apply below_alloc | apply pw_below_drewN | apply below_drew1) | exact HB.out)) hb); clear HO643; clear HB; have HO643 := n0_; have HO646 := n1_; have HB := n2_; clear n0_ n1_ n2_; clear hb ho9))
    go_loopg [4, 5] k (fun kq v4 v5 w' => ∃ (x4_1 : List Int) (x5_1 : Int), v5 = .int .i64 x5_1 ∧ Aside0 (spec_BestLens.l0 kq l0 y641 x4_1 x5_1 = some r) ∧ Aside0 (kq ≤ k) ∧ Aside0 (Kd.R (Kd.int .i64) 3 w' w.heap.size (fun k_ => some k_ ≠ (v4 : Value).ownBlock) v642 y641) ∧ Aside0 (Kd.R (Kd.int .i64) 3 w' w.heap.size (fun k_ => some k_ ≠ (v642 : Value).ownBlock) v4 x4_1) ∧ Aside0 (Below w.heap.size w w'))
    case atStart => exact ⟨(y644), (0), (by first | rfl | (simp; done) | (simp [*]; done)), H', ⟨Nat.le_refl _⟩, ⟨by (with_reducible repeat (first | apply Kd.R_alloc | apply Kd.R_drewN | apply Kd.R_drew)); exact Kd.R_mono HO643.out (fun _ hk => hk.2)⟩, ⟨by (with_reducible repeat (first | apply Kd.R_alloc | apply Kd.R_drewN | apply Kd.R_drew)); exact Kd.R_mono HO646.out (fun _ hk => hk.2)⟩, ⟨by repeat (first | (with_reducible first | exact HB.out | apply below_alloc | apply pw_below_drewN | apply below_drew1) | exact HB.out)⟩⟩
    case round =>
     clear H'
     try clear c1
     try clear p2
     try clear c3
     try clear c4
     try clear c4b0
     try clear c4b1
     try clear c5
     try clear c5b0
     try clear c5b1
     obtain ⟨x4_1, x5_1, rfl, HA, HK1, HO_3, HO_4, HB⟩ := hrel
     cases gk with
     | zero => exact absurd HA.out (by simp [spec_BestLens.l0])
     | succ k1 =>
      have H := HA.out
      clear HA
      simp only [spec_BestLens.l0] at H
      by_cases c10 : x5_1 < (l0.length : Int)
      ·rw [if_pos c10] at H
       have c10b0 : decide (x5_1 < (l0.length : Int)) = true := decide_eq_true c10
       clear c10
       by_cases c11 : 0 ≤ x5_1
       ·rw [if_pos c11] at H
        have c11b0 : decide (0 ≤ x5_1) = true := decide_eq_true c11
        clear c11
        by_cases c12 : (rd l0 x5_1) = 0
        ·rw [if_pos c12] at H
         have c12b0 : ((rd l0 x5_1) == 0) = true := beq_iff_eq.mpr c12
         have c12b1 : ((rd l0 x5_1) != 0) = false := bne_eq_false_iff_eq.mpr c12
         clear c12
         have H' := Aside0.mk H
         clear H
         have p647 : 0 ≤ (x5_1 : Int) := of_decide_eq_true (by first | (with_reducible assumption) | assumption)
         have q647 : x5_1 < (l0.length : Int) := of_decide_eq_true (by first | (with_reducible assumption) | assumption)
         obtain ⟨ad647, e647, hx647_0⟩ := Kd.at_int HR0.out x5_1 p647 q647
         cases e647
         replace hx647_0 := (HB.out.cell (World.block_lt_of_cell? w _ hx647_0)).trans hx647_0
         replace p647 := eq_true p647
         replace q647 := eq_true q647
         go_wp2
         go_roundg k1
         case measure => have := HK1.out; omega
         case rel => exact ⟨(x4_1), (wrap64 (x5_1 + 1)), (by first | rfl | (simp; done) | (simp [*]; done)), H', ⟨by have := HK1.out; omega⟩, ⟨by (with_reducible repeat (first | apply Kd.R_alloc | apply Kd.R_drewN | apply Kd.R_drew)); exact HO_3.out⟩, ⟨by (with_reducible repeat (first | apply Kd.R_alloc | apply Kd.R_drewN | apply Kd.R_drew)); exact HO_4.out⟩, ⟨by repeat (first | (with_reducible first | exact HB.out | apply below_alloc | apply pw_below_drewN | apply below_drew1) | exact HB.out)⟩⟩
        ·rw [if_neg c12] at H
         have c12b0 : ((rd l0 x5_1) == 0) = false := beq_eq_false_iff_ne.mpr c12
         have c12b1 : ((rd l0 x5_1) != 0) = true := bne_iff_ne.mpr c12
         have H' := Aside0.mk H
         clear H
         have p647 : 0 ≤ (x5_1 : Int) := of_decide_eq_true (by first | (with_reducible assumption) | assumption)
         have q647 : x5_1 < (l0.length : Int) := of_decide_eq_true (by first | (with_reducible assumption) | assumption)
         obtain ⟨ad647, e647, hx647_0⟩ := Kd.at_int HR0.out x5_1 p647 q647
         cases e647
         replace hx647_0 := (HB.out.cell (World.block_lt_of_cell? w _ hx647_0)).trans hx647_0
         replace p647 := eq_true p647
         replace q647 := eq_true q647
         obtain ⟨Ao13, co13, eo13⟩ := Kd.R_slice HO_4.out
         subst eo13
         go_wp2
         go_loopg [6] k1 (fun kq v6 w' => ∃ (x6_2 : Int), v6 = .int .i64 x6_2 ∧ Aside0 (spec_BestLens.l1 kq l0 y641 x4_1 x5_1 x6_2 = some r) ∧ Aside0 (kq ≤ k1) ∧ Aside0 (Kd.R (Kd.int .i64) 3 w' w.heap.size (fun k_ => some k_ ≠ ((.slice Ao13 x4_1.length co13) : Value).ownBlock) v642 y641) ∧ Aside0 (Kd.R (Kd.int .i64) 3 w' w.heap.size (fun k_ => some k_ ≠ (v642 : Value).ownBlock) (.slice Ao13 x4_1.length co13) x4_1) ∧ Aside0 (Below w.heap.size w w'))
         case atStart => exact ⟨((x4_1.length : Int)), (by first | rfl | (simp; done) | (simp [*]; done)), H', ⟨Nat.le_refl _⟩, ⟨by (with_reducible repeat (first | apply Kd.R_alloc | apply Kd.R_drewN | apply Kd.R_drew)); exact HO_3.out⟩, ⟨by (with_reducible repeat (first | apply Kd.R_alloc | apply Kd.R_drewN | apply Kd.R_drew)); exact HO_4.out⟩, ⟨by repeat (first | (with_reducible first | exact HB.out | apply below_alloc | apply pw_below_drewN | apply below_drew1) | exact HB.out)⟩⟩
         case round =>
          clear H'
          try clear c1
          try clear p2
          try clear c3
          try clear c4
          try clear c4b0
          try clear c4b1
          try clear c5
          try clear c5b0
          try clear c5b1
          try clear p6
          try clear q6
          try clear hx6
          try clear c10
          try clear c10b0
          try clear c11
          try clear c11b0
          try clear c12
          try clear c12b0
          try clear c12b1
          try clear hx647_0
          try clear p2
          try clear p647
          try clear q647
          obtain ⟨x6_2, rfl, HA, HK2, HO_3, HO_4, HB⟩ := hrel
          cases gk with
          | zero => exact absurd HA.out (by simp [spec_BestLens.l1])
          | succ k2 =>
           have H := HA.out
           clear HA
           simp only [spec_BestLens.l1] at H
           by_cases c14 : x6_2 > 0
           ·rw [if_pos c14] at H
            have c14b0 : decide (0 < x6_2) = true := decide_eq_true c14
            clear c14
            obtain ⟨ji15, hji15⟩ : ∃ j_ : Int, (wrap64 (x6_2 - 1)) = j_ := ⟨_, rfl⟩
            replace H : (if 0 ≤ (ji15) then (if (ji15) < (x4_1.length : Int) then (if 0 ≤ (rd x4_1 (ji15)) then (if (rd x4_1 (ji15)) < (l0.length : Int) then (if 0 ≤ x5_1 then (if x5_1 < (l0.length : Int) then (if (rd l0 (rd x4_1 (ji15))) > (rd l0 x5_1) then (spec_BestLens.l1 k2 l0 y641 x4_1 x5_1 ji15) else ((some (([] : List Int) : List Int)).bind fun y651 => (if 0 ≤ x6_2 then (if x6_2 ≤ (x4_1.length : Int) then ((some (x4_1.take (x6_2 : Int).toNat : List Int)).bind fun y654 => (if y651.length + y654.length < 17592186044416 then ((some (y651 ++ y654 : List Int)).bind fun y659 => (if y659.length < 17592186044416 then ((some (y659 ++ [x5_1] : List Int)).bind fun y662 => ((some (x4_1.drop (x6_2 : Int).toNat : List Int)).bind fun y665 => (if y662.length + y665.length < 17592186044416 then (spec_BestLens.l0 k2 l0 y641 (y662 ++ y665) (wrap64 (x5_1 + 1))) else (none)))) else (none))) else (none))) else (none)) else (none)))) else (none)) else (none)) else (none)) else (none)) else (none)) else (none)) = some r := by first | (rw [hji15] at H; exact H) | (simp only [hji15] at H ⊢; exact H)
            have hji15w : (IntKind.i64.wrap (x6_2 - 1)) = ji15 := (i64_w _).trans hji15
            by_cases c16 : 0 ≤ (ji15)
            ·rw [if_pos c16] at H
             have c16b0 : decide (0 ≤ (ji15)) = true := decide_eq_true c16
             clear c16
             by_cases c17 : (ji15) < (x4_1.length : Int)
             ·rw [if_pos c17] at H
              have c17b0 : decide ((ji15) < (x4_1.length : Int)) = true := decide_eq_true c17
              clear c17
              by_cases c18 : 0 ≤ (rd x4_1 (ji15))
              ·rw [if_pos c18] at H
               have c18b0 : decide (0 ≤ (rd x4_1 (ji15))) = true := decide_eq_true c18
               clear c18
               by_cases c19 : (rd x4_1 (ji15)) < (l0.length : Int)
               ·rw [if_pos c19] at H
                have c19b0 : decide ((rd x4_1 (ji15)) < (l0.length : Int)) = true := decide_eq_true c19
                clear c19
                by_cases c20 : 0 ≤ x5_1
                ·rw [if_pos c20] at H
                 have c20b0 : decide (0 ≤ x5_1) = true := decide_eq_true c20
                 clear c20
                 by_cases c21 : x5_1 < (l0.length : Int)
                 ·rw [if_pos c21] at H
                  have c21b0 : decide (x5_1 < (l0.length : Int)) = true := decide_eq_true c21
                  clear c21
                  by_cases c22 : (rd l0 (rd x4_1 (ji15))) > (rd l0 x5_1)
                  ·rw [if_pos c22] at H
                   have c22b0 : decide ((rd l0 x5_1) < (rd l0 (rd x4_1 (ji15)))) = true := decide_eq_true c22
                   clear c22
                   have H' := Aside0.mk H
                   clear H
                   try go_wp2
                   have n0_ := Aside0.mk (Kd.R_drew HO_3.out)
                   have n1_ := Aside0.mk (Kd.R_drew HO_4.out)
                   have n2_ := Aside0.mk (below_drew1 HB.out)
                   clear HO_3
                   clear HO_4
                   clear HB
                   have HO_3 := n0_
                   have HO_4 := n1_
                   have HB := n2_
                   clear n0_ n1_ n2_
                   have p648 : 0 ≤ ((ji15) : Int) := of_decide_eq_true (by first | (with_reducible assumption) | assumption)
                   have q648 : (ji15) < (x4_1.length : Int) := of_decide_eq_true (by first | (with_reducible assumption) | assumption)
                   obtain ⟨ad648, e648, hx648_0⟩ := Kd.at_int (Kd.R_reads' HO_4.out).2.2 (ji15) p648 q648
                   cases e648
                   replace p648 := eq_true p648
                   replace q648 := eq_true q648
                   have p649 : 0 ≤ ((rd x4_1 (ji15)) : Int) := of_decide_eq_true (by first | (with_reducible assumption) | assumption)
                   have q649 : (rd x4_1 (ji15)) < (l0.length : Int) := of_decide_eq_true (by first | (with_reducible assumption) | assumption)
                   obtain ⟨ad649, e649, hx649_0⟩ := Kd.at_int HR0.out (rd x4_1 (ji15)) p649 q649
                   have hw649_0 := hx649_0
                   obtain rfl : ad647 = ad649 := (by injection e649)
                   replace hx649_0 := (HB.out.cell (World.block_lt_of_cell? w _ hx649_0)).trans hx649_0
                   replace p649 := eq_true p649
                   replace q649 := eq_true q649
                   have p650 : 0 ≤ (x5_1 : Int) := of_decide_eq_true (by first | (with_reducible assumption) | assumption)
                   have q650 : x5_1 < (l0.length : Int) := of_decide_eq_true (by first | (with_reducible assumption) | assumption)
                   obtain ⟨ad650, e650, hx650_0⟩ := Kd.at_int HR0.out x5_1 p650 q650
                   have hw650_0 := hx650_0
                   obtain rfl : ad647 = ad650 := (by injection e650)
                   replace hx650_0 := (HB.out.cell (World.block_lt_of_cell? w _ hx650_0)).trans hx650_0
                   replace p650 := eq_true p650
                   replace q650 := eq_true q650
                   refine start_ (n := 17) (S := fun w' => w'.cell? (ad648.add ((ji15)).toNat) = some (.int .i64 (rd x4_1 (ji15))) ∧ w'.cell? (ad647.add ((rd x4_1 (ji15))).toNat) = some (.int .i64 (rd l0 (rd x4_1 (ji15)))) ∧ w'.cell? (ad647.add (x5_1).toNat) = some (.int .i64 (rd l0 x5_1))) (ds := []) #[false, false, false, false, false, false, false, false, false, false, false, false, false, false, false, false, false] (by kernel_rfl) rfl rfl ⟨hx648_0, ((HB.out.cell (World.block_lt_of_cell? w _ hw649_0)).trans hw649_0), ((HB.out.cell (World.block_lt_of_cell? w _ hw650_0)).trans hw650_0)⟩ (fun hHeld => ?_); refine with_tabW spec_BestLens.tab10 spec_BestLens.bits10 (fun HT_ HW_ => ?_)
                   generalize wr.drew = w23 at HO_3 HO_4 HB hx648_0 hx649_0 hx650_0 hHeld ⊢
                   refine pure_ (i := 0) (N := some 37) (v := ?_) (a' := ?_) #[true, false, false, false, false, false, false, false, false, false, false, false, false, false, false, false, false] rfl rfl (any_of HT_.out (by kernel_rfl)) (fun _ _ _ h => h) (Or.inl ⟨by rfl, ?_⟩) ?_ ?_
                   rotate_left
                   ·intro w'
                    go_simp
                    with_reducible rfl
                   rotate_left
                   ·simp only [Act.put, List.setIfInBounds_toArray, List.set_cons_zero, List.set_cons_succ, i64_w, i32_w]
                    rfl
                   refine pure_ (i := 1) (N := some 38) (v := ?_) (a' := ?_) #[true, true, false, false, false, false, false, false, false, false, false, false, false, false, false, false, false] rfl rfl (any_of HT_.out (by kernel_rfl)) (fun _ _ _ h => h) (Or.inl ⟨by rfl, ?_⟩) ?_ ?_
                   rotate_left
                   ·intro w'
                    go_simp
                    with_reducible rfl
                   rotate_left
                   ·simp only [Act.put, List.setIfInBounds_toArray, List.set_cons_zero, List.set_cons_succ, i64_w, i32_w]
                    rfl
                   refine pure_ (i := 2) (N := some 39) (v := ?_) (a' := ?_) #[true, true, true, false, false, false, false, false, false, false, false, false, false, false, false, false, false] rfl rfl (any_of HT_.out (by kernel_rfl)) (fun _ _ _ h => h) (Or.inl ⟨by rfl, ?_⟩) ?_ ?_
                   rotate_left
                   ·intro w'
                    go_simp
                    with_reducible rfl
                   rotate_left
                   ·simp only [Act.put, List.setIfInBounds_toArray, List.set_cons_zero, List.set_cons_succ, i64_w, i32_w]
                    rfl
                   refine pure_ (i := 3) (N := some 40) (v := ?_) (a' := ?_) #[true, true, true, true, false, false, false, false, false, false, false, false, false, false, false, false, false] rfl rfl (any_of HT_.out (by kernel_rfl)) (fun _ _ _ h => h) (Or.inl ⟨by rfl, ?_⟩) ?_ ?_
                   rotate_left
                   ·intro w'
                    go_simp
                    with_reducible rfl
                   rotate_left
                   ·simp only [Act.put, List.setIfInBounds_toArray, List.set_cons_zero, List.set_cons_succ, i64_w, i32_w]
                    rfl
                   refine pure_ (i := 4) (N := some 41) (v := ?_) (a' := ?_) #[true, true, true, true, true, false, false, false, false, false, false, false, false, false, false, false, false] rfl rfl (any_of HT_.out (by kernel_rfl)) (fun _ _ _ h => h) (Or.inl ⟨by rfl, ?_⟩) ?_ ?_
                   rotate_left
                   ·intro w'
                    go_simp
                    with_reducible rfl
                   rotate_left
                   ·simp only [Act.put, List.setIfInBounds_toArray, List.set_cons_zero, List.set_cons_succ, i64_w, i32_w]
                    rfl
                   refine pure_ (i := 5) (N := some 42) (v := ?_) (a' := ?_) #[true, true, true, true, true, true, false, false, false, false, false, false, false, false, false, false, false] rfl rfl (any_of HT_.out (by kernel_rfl)) (fun _ _ _ h => h) (Or.inl ⟨by rfl, ?_⟩) ?_ ?_
                   rotate_left
                   ·intro w'
                    go_simp
                    with_reducible rfl
                   rotate_left
                   ·simp only [Act.put, List.setIfInBounds_toArray, List.set_cons_zero, List.set_cons_succ, i64_w, i32_w]
                    rfl
                   refine pure_ (i := 6) (N := some 43) (v := ?_) (a' := ?_) #[true, true, true, true, true, true, true, false, false, false, false, false, false, false, false, false, false] rfl rfl (any_of HT_.out (by kernel_rfl)) (fun _ _ _ h => h) (Or.inl ⟨by rfl, ?_⟩) ?_ ?_
                   rotate_left
                   ·intro w'
                    go_simp
                    with_reducible rfl
                   rotate_left
                   ·simp only [Act.put, List.setIfInBounds_toArray, List.set_cons_zero, List.set_cons_succ, i64_w, i32_w]
                    rfl
                   refine pure_ (i := 7) (N := some 44) (v := ?_) (a' := ?_) #[true, true, true, true, true, true, true, true, false, false, false, false, false, false, false, false, false] rfl rfl (any_of HT_.out (by kernel_rfl)) (fun _ _ _ h => h) (Or.inl ⟨by rfl, ?_⟩) ?_ ?_
                   rotate_left
                   ·intro w'
                    go_simp
                    with_reducible rfl
                   rotate_left
                   ·simp only [Act.put, List.setIfInBounds_toArray, List.set_cons_zero, List.set_cons_succ, i64_w, i32_w]
                    rfl
                   refine pure_ (i := 11) (N := some 48) (v := ?_) (a' := ?_) #[true, true, true, true, true, true, true, true, false, false, false, true, false, false, false, false, false] rfl rfl (any_of HT_.out (by kernel_rfl)) (fun _ _ _ h => h) (Or.inl ⟨by rfl, ?_⟩) ?_ ?_
                   rotate_left
                   ·intro w'
                    go_simp
                    with_reducible rfl
                   rotate_left
                   ·simp only [Act.put, List.setIfInBounds_toArray, List.set_cons_zero, List.set_cons_succ, i64_w, i32_w]
                    rfl
                   refine pure_ (i := 12) (N := some 49) (v := ?_) (a' := ?_) #[true, true, true, true, true, true, true, true, false, false, false, true, true, false, false, false, false] rfl rfl (any_of HT_.out (by kernel_rfl)) (fun _ _ _ h => h) (Or.inl ⟨by rfl, ?_⟩) ?_ ?_
                   rotate_left
                   ·intro w'
                    go_simp
                    with_reducible rfl
                   rotate_left
                   ·simp only [Act.put, List.setIfInBounds_toArray, List.set_cons_zero, List.set_cons_succ, i64_w, i32_w]
                    rfl
                   refine pure_ (i := 13) (N := some 50) (v := ?_) (a' := ?_) #[true, true, true, true, true, true, true, true, false, false, false, true, true, true, false, false, false] rfl rfl (any_of HT_.out (by kernel_rfl)) (fun _ _ _ h => h) (Or.inl ⟨by rfl, ?_⟩) ?_ ?_
                   rotate_left
                   ·intro w'
                    go_simp
                    with_reducible rfl
                   rotate_left
                   ·simp only [Act.put, List.setIfInBounds_toArray, List.set_cons_zero, List.set_cons_succ, i64_w, i32_w]
                    rfl
                   refine take_ (i := 8) (N := some 45) (v := ?_) (a' := ?_) #[true, true, true, true, true, true, true, true, true, false, false, true, true, true, false, false, false] rfl rfl (take_ofW HT_.out HW_.out (by kernel_rfl)) (fun _ _ _ h => h) (Or.inl ⟨by rfl, ?_⟩) hHeld ?_ ?_
                   rotate_left
                   ·rintro w' ⟨s0, s1, s2⟩
                    go_simp
                    with_reducible rfl
                   rotate_left
                   ·simp only [Act.put, List.setIfInBounds_toArray, List.set_cons_zero, List.set_cons_succ, i64_w, i32_w]
                    rfl
                   refine pure_ (i := 9) (N := some 46) (v := ?_) (a' := ?_) #[true, true, true, true, true, true, true, true, true, true, false, true, true, true, false, false, false] rfl rfl (any_of HT_.out (by kernel_rfl)) (fun _ _ _ h => h) (Or.inl ⟨by rfl, ?_⟩) ?_ ?_
                   rotate_left
                   ·intro w'
                    go_simp
                    with_reducible rfl
                   rotate_left
                   ·simp only [Act.put, List.setIfInBounds_toArray, List.set_cons_zero, List.set_cons_succ, i64_w, i32_w]
                    rfl
                   refine take_ (i := 10) (N := some 47) (v := ?_) (a' := ?_) #[true, true, true, true, true, true, true, true, true, true, true, true, true, true, false, false, false] rfl rfl (take_ofW HT_.out HW_.out (by kernel_rfl)) (fun _ _ _ h => h) (Or.inl ⟨by rfl, ?_⟩) hHeld ?_ ?_
                   rotate_left
                   ·rintro w' ⟨s0, s1, s2⟩
                    go_simp
                    with_reducible rfl
                   rotate_left
                   ·simp only [Act.put, List.setIfInBounds_toArray, List.set_cons_zero, List.set_cons_succ, i64_w, i32_w]
                    rfl
                   refine take_ (i := 14) (N := some 51) (v := ?_) (a' := ?_) #[true, true, true, true, true, true, true, true, true, true, true, true, true, true, true, false, false] rfl rfl (take_ofW HT_.out HW_.out (by kernel_rfl)) (fun _ _ _ h => h) (Or.inl ⟨by rfl, ?_⟩) hHeld ?_ ?_
                   rotate_left
                   ·rintro w' ⟨s0, s1, s2⟩
                    go_simp
                    with_reducible rfl
                   rotate_left
                   ·simp only [Act.put, List.setIfInBounds_toArray, List.set_cons_zero, List.set_cons_succ, i64_w, i32_w]
                    rfl
                   refine pure_ (i := 15) (N := some 52) (v := ?_) (a' := ?_) #[true, true, true, true, true, true, true, true, true, true, true, true, true, true, true, true, false] rfl rfl (any_of HT_.out (by kernel_rfl)) (fun _ _ _ h => h) (Or.inl ⟨by rfl, ?_⟩) ?_ ?_
                   rotate_left
                   ·intro w'
                    go_simp
                    with_reducible rfl
                   rotate_left
                   ·simp only [Act.put, List.setIfInBounds_toArray, List.set_cons_zero, List.set_cons_succ, i64_w, i32_w]
                    rfl
                   refine pure_ (i := 16) (N := some 53) (v := ?_) (a' := ?_) #[true, true, true, true, true, true, true, true, true, true, true, true, true, true, true, true, true] rfl rfl (any_of HT_.out (by kernel_rfl)) (fun _ _ _ h => h) (Or.inl ⟨by rfl, ?_⟩) ?_ ?_
                   rotate_left
                   ·intro w'
                    go_simp
                    with_reducible rfl
                   rotate_left
                   ·simp only [Act.put, List.setIfInBounds_toArray, List.set_cons_zero, List.set_cons_succ, i64_w, i32_w]
                    rfl
                   refine done_ (done_of HT_.out (by kernel_rfl)) ?_
                   try go_wp2
                   go_roundg k2
                   case measure => have := HK1.out; have := HK2.out; omega
                   case rel => exact ⟨(ji15), (by first | rfl | (simp; done) | (simp only [← hji15] <;> (first | rfl | simp)) | (simp [*]; done)), H', ⟨by have := HK1.out; have := HK2.out; omega⟩, ⟨by (with_reducible repeat (first | apply Kd.R_alloc | apply Kd.R_drewN | apply Kd.R_drew)); exact HO_3.out⟩, ⟨by (with_reducible repeat (first | apply Kd.R_alloc | apply Kd.R_drewN | apply Kd.R_drew)); exact HO_4.out⟩, ⟨by repeat (first | (with_reducible first | exact HB.out | apply below_alloc | apply pw_below_drewN | apply below_drew1) | exact HB.out)⟩⟩
                  ·rw [if_neg c22] at H
                   have c22b0 : decide ((rd l0 x5_1) < (rd l0 (rd x4_1 (ji15)))) = false := decide_eq_false c22
                   clear c22
                   obtain ⟨y651, hy651⟩ : ∃ y_ : List Int, y_ = (([] : List Int)) := ⟨_, rfl⟩
                   replace H : (if 0 ≤ x6_2 then (if x6_2 ≤ (x4_1.length : Int) then ((some (x4_1.take (x6_2 : Int).toNat : List Int)).bind fun y654 => (if y651.length + y654.length < 17592186044416 then ((some (y651 ++ y654 : List Int)).bind fun y659 => (if y659.length < 17592186044416 then ((some (y659 ++ [x5_1] : List Int)).bind fun y662 => ((some (x4_1.drop (x6_2 : Int).toNat : List Int)).bind fun y665 => (if y662.length + y665.length < 17592186044416 then (spec_BestLens.l0 k2 l0 y641 (y662 ++ y665) (wrap64 (x5_1 + 1))) else (none)))) else (none))) else (none))) else (none)) else (none)) = some r := by first | (rw [hy651]; with_reducible exact H) | (have H2_ := (Option.bind_some _ _).symm.trans H; rw [hy651]; with_reducible exact H2_) | (have H2_ := (Option.bind_some _ _).symm.trans H; with_reducible exact H2_) | with_reducible exact H | (rw [hy651]; exact H) | exact H
                   have Ny651 := Aside0.mk hy651
                   clear hy651
                   by_cases c24 : 0 ≤ x6_2
                   ·rw [if_pos c24] at H
                    have c24b0 := eq_true c24
                    have c24b1 : decide (0 ≤ x6_2) = true := decide_eq_true c24
                    clear c24
                    by_cases c25 : x6_2 ≤ (x4_1.length : Int)
                    ·rw [if_pos c25] at H
                     have c25b0 := eq_true c25
                     have c25b1 : decide (x6_2 ≤ (x4_1.length : Int)) = true := decide_eq_true c25
                     clear c25
                     obtain ⟨y654, hy654⟩ : ∃ y_ : List Int, y_ = (x4_1.take (x6_2 : Int).toNat) := ⟨_, rfl⟩
                     replace H : (if y651.length + y654.length < 17592186044416 then ((some (y651 ++ y654 : List Int)).bind fun y659 => (if y659.length < 17592186044416 then ((some (y659 ++ [x5_1] : List Int)).bind fun y662 => ((some (x4_1.drop (x6_2 : Int).toNat : List Int)).bind fun y665 => (if y662.length + y665.length < 17592186044416 then (spec_BestLens.l0 k2 l0 y641 (y662 ++ y665) (wrap64 (x5_1 + 1))) else (none)))) else (none))) else (none)) = some r := by first | (rw [hy654]; with_reducible exact H) | (have H2_ := (Option.bind_some _ _).symm.trans H; rw [hy654]; with_reducible exact H2_) | (have H2_ := (Option.bind_some _ _).symm.trans H; with_reducible exact H2_) | with_reducible exact H | (rw [hy654]; exact H) | exact H
                     have Ny654 := Aside0.mk hy654
                     clear hy654
                     by_cases c26 : y651.length + y654.length < 17592186044416
                     ·rw [if_pos c26] at H
                      have LMc26 := Aside0.mk c26
                      clear c26
                      obtain ⟨y659, hy659⟩ : ∃ y_ : List Int, y_ = (y651 ++ y654) := ⟨_, rfl⟩
                      replace H : (if y659.length < 17592186044416 then ((some (y659 ++ [x5_1] : List Int)).bind fun y662 => ((some (x4_1.drop (x6_2 : Int).toNat : List Int)).bind fun y665 => (if y662.length + y665.length < 17592186044416 then (spec_BestLens.l0 k2 l0 y641 (y662 ++ y665) (wrap64 (x5_1 + 1))) else (none)))) else (none)) = some r := by first | (rw [hy659]; with_reducible exact H) | (have H2_ := (Option.bind_some _ _).symm.trans H; rw [hy659]; with_reducible exact H2_) | (have H2_ := (Option.bind_some _ _).symm.trans H; with_reducible exact H2_) | with_reducible exact H | (rw [hy659]; exact H) | exact H
                      have Ny659 := Aside0.mk hy659
                      clear hy659
                      by_cases c27 : y659.length < 17592186044416
                      ·rw [if_pos c27] at H
                       have LMc27 := Aside0.mk c27
                       clear c27
                       obtain ⟨y662, hy662⟩ : ∃ y_ : List Int, y_ = (y659 ++ [x5_1]) := ⟨_, rfl⟩
                       replace H : ((some (x4_1.drop (x6_2 : Int).toNat : List Int)).bind fun y665 => (if y662.length + y665.length < 17592186044416 then (spec_BestLens.l0 k2 l0 y641 (y662 ++ y665) (wrap64 (x5_1 + 1))) else (none))) = some r := by first | (rw [hy662]; with_reducible exact H) | (have H2_ := (Option.bind_some _ _).symm.trans H; rw [hy662]; with_reducible exact H2_) | (have H2_ := (Option.bind_some _ _).symm.trans H; with_reducible exact H2_) | with_reducible exact H | (rw [hy662]; exact H) | exact H
                       have Ny662 := Aside0.mk hy662
                       clear hy662
                       have c28b0 := eq_true (of_decide_eq_true (by first | (with_reducible assumption) | assumption) : 0 ≤ x6_2)
                       have c29b0 := eq_true (of_decide_eq_true (by first | (with_reducible assumption) | assumption) : x6_2 ≤ (x4_1.length : Int))
                       obtain ⟨y665, hy665⟩ : ∃ y_ : List Int, y_ = (x4_1.drop (x6_2 : Int).toNat) := ⟨_, rfl⟩
                       replace H : (if y662.length + y665.length < 17592186044416 then (spec_BestLens.l0 k2 l0 y641 (y662 ++ y665) (wrap64 (x5_1 + 1))) else (none)) = some r := by first | (rw [hy665]; with_reducible exact H) | (have H2_ := (Option.bind_some _ _).symm.trans H; rw [hy665]; with_reducible exact H2_) | (have H2_ := (Option.bind_some _ _).symm.trans H; with_reducible exact H2_) | with_reducible exact H | (rw [hy665]; exact H) | exact H
                       have Ny665 := Aside0.mk hy665
                       clear hy665
                       by_cases c30 : y662.length + y665.length < 17592186044416
                       ·rw [if_pos c30] at H
                        have LMc30 := Aside0.mk c30
                        clear c30
                        obtain ⟨y670, hy670⟩ : ∃ y_ : List Int, y_ = (y662 ++ y665) := ⟨_, rfl⟩
                        replace H : (spec_BestLens.l0 k2 l0 y641 y670 (wrap64 (x5_1 + 1))) = some r := by first | (rw [hy670]; with_reducible exact H) | (have H2_ := (Option.bind_some _ _).symm.trans H; rw [hy670]; with_reducible exact H2_) | (have H2_ := (Option.bind_some _ _).symm.trans H; with_reducible exact H2_) | with_reducible exact H | (rw [hy670]; exact H) | exact H
                        have Ny670 := Aside0.mk hy670
                        clear hy670
                        have H' := Aside0.mk H
                        clear H
                        try go_wp2
                        have n0_ := Aside0.mk (Kd.R_drew HO_3.out)
                        have n1_ := Aside0.mk (Kd.R_drew HO_4.out)
                        have n2_ := Aside0.mk (below_drew1 HB.out)
                        clear HO_3
                        clear HO_4
                        clear HB
                        have HO_3 := n0_
                        have HO_4 := n1_
                        have HB := n2_
                        clear n0_ n1_ n2_
                        have p648 : 0 ≤ ((ji15) : Int) := of_decide_eq_true (by first | (with_reducible assumption) | assumption)
                        have q648 : (ji15) < (x4_1.length : Int) := of_decide_eq_true (by first | (with_reducible assumption) | assumption)
                        obtain ⟨ad648, e648, hx648_0⟩ := Kd.at_int (Kd.R_reads' HO_4.out).2.2 (ji15) p648 q648
                        cases e648
                        replace p648 := eq_true p648
                        replace q648 := eq_true q648
                        have p649 : 0 ≤ ((rd x4_1 (ji15)) : Int) := of_decide_eq_true (by first | (with_reducible assumption) | assumption)
                        have q649 : (rd x4_1 (ji15)) < (l0.length : Int) := of_decide_eq_true (by first | (with_reducible assumption) | assumption)
                        obtain ⟨ad649, e649, hx649_0⟩ := Kd.at_int HR0.out (rd x4_1 (ji15)) p649 q649
                        have hw649_0 := hx649_0
                        obtain rfl : ad647 = ad649 := (by injection e649)
                        replace hx649_0 := (HB.out.cell (World.block_lt_of_cell? w _ hx649_0)).trans hx649_0
                        replace p649 := eq_true p649
                        replace q649 := eq_true q649
                        have p650 : 0 ≤ (x5_1 : Int) := of_decide_eq_true (by first | (with_reducible assumption) | assumption)
                        have q650 : x5_1 < (l0.length : Int) := of_decide_eq_true (by first | (with_reducible assumption) | assumption)
                        obtain ⟨ad650, e650, hx650_0⟩ := Kd.at_int HR0.out x5_1 p650 q650
                        have hw650_0 := hx650_0
                        obtain rfl : ad647 = ad650 := (by injection e650)
                        replace hx650_0 := (HB.out.cell (World.block_lt_of_cell? w _ hx650_0)).trans hx650_0
                        replace p650 := eq_true p650
                        replace q650 := eq_true q650
                        refine start_ (n := 17) (S := fun w' => w'.cell? (ad648.add ((ji15)).toNat) = some (.int .i64 (rd x4_1 (ji15))) ∧ w'.cell? (ad647.add ((rd x4_1 (ji15))).toNat) = some (.int .i64 (rd l0 (rd x4_1 (ji15)))) ∧ w'.cell? (ad647.add (x5_1).toNat) = some (.int .i64 (rd l0 x5_1))) (ds := []) #[false, false, false, false, false, false, false, false, false, false, false, false, false, false, false, false, false] (by kernel_rfl) rfl rfl ⟨hx648_0, ((HB.out.cell (World.block_lt_of_cell? w _ hw649_0)).trans hw649_0), ((HB.out.cell (World.block_lt_of_cell? w _ hw650_0)).trans hw650_0)⟩ (fun hHeld => ?_); refine with_tabW spec_BestLens.tab10 spec_BestLens.bits10 (fun HT_ HW_ => ?_)
                        generalize wr.drew = w31 at HO_3 HO_4 HB hx648_0 hx649_0 hx650_0 hHeld ⊢
                        refine pure_ (i := 0) (N := some 37) (v := ?_) (a' := ?_) #[true, false, false, false, false, false, false, false, false, false, false, false, false, false, false, false, false] rfl rfl (any_of HT_.out (by kernel_rfl)) (fun _ _ _ h => h) (Or.inl ⟨by rfl, ?_⟩) ?_ ?_
                        rotate_left
                        ·intro w'
                         go_simp
                         with_reducible rfl
                        rotate_left
                        ·simp only [Act.put, List.setIfInBounds_toArray, List.set_cons_zero, List.set_cons_succ, i64_w, i32_w]
                         rfl
                        refine pure_ (i := 1) (N := some 38) (v := ?_) (a' := ?_) #[true, true, false, false, false, false, false, false, false, false, false, false, false, false, false, false, false] rfl rfl (any_of HT_.out (by kernel_rfl)) (fun _ _ _ h => h) (Or.inl ⟨by rfl, ?_⟩) ?_ ?_
                        rotate_left
                        ·intro w'
                         go_simp
                         with_reducible rfl
                        rotate_left
                        ·simp only [Act.put, List.setIfInBounds_toArray, List.set_cons_zero, List.set_cons_succ, i64_w, i32_w]
                         rfl
                        refine pure_ (i := 2) (N := some 39) (v := ?_) (a' := ?_) #[true, true, true, false, false, false, false, false, false, false, false, false, false, false, false, false, false] rfl rfl (any_of HT_.out (by kernel_rfl)) (fun _ _ _ h => h) (Or.inl ⟨by rfl, ?_⟩) ?_ ?_
                        rotate_left
                        ·intro w'
                         go_simp
                         with_reducible rfl
                        rotate_left
                        ·simp only [Act.put, List.setIfInBounds_toArray, List.set_cons_zero, List.set_cons_succ, i64_w, i32_w]
                         rfl
                        refine pure_ (i := 3) (N := some 40) (v := ?_) (a' := ?_) #[true, true, true, true, false, false, false, false, false, false, false, false, false, false, false, false, false] rfl rfl (any_of HT_.out (by kernel_rfl)) (fun _ _ _ h => h) (Or.inl ⟨by rfl, ?_⟩) ?_ ?_
                        rotate_left
                        ·intro w'
                         go_simp
                         with_reducible rfl
                        rotate_left
                        ·simp only [Act.put, List.setIfInBounds_toArray, List.set_cons_zero, List.set_cons_succ, i64_w, i32_w]
                         rfl
                        refine pure_ (i := 4) (N := some 41) (v := ?_) (a' := ?_) #[true, true, true, true, true, false, false, false, false, false, false, false, false, false, false, false, false] rfl rfl (any_of HT_.out (by kernel_rfl)) (fun _ _ _ h => h) (Or.inl ⟨by rfl, ?_⟩) ?_ ?_
                        rotate_left
                        ·intro w'
                         go_simp
                         with_reducible rfl
                        rotate_left
                        ·simp only [Act.put, List.setIfInBounds_toArray, List.set_cons_zero, List.set_cons_succ, i64_w, i32_w]
                         rfl
                        refine pure_ (i := 5) (N := some 42) (v := ?_) (a' := ?_) #[true, true, true, true, true, true, false, false, false, false, false, false, false, false, false, false, false] rfl rfl (any_of HT_.out (by kernel_rfl)) (fun _ _ _ h => h) (Or.inl ⟨by rfl, ?_⟩) ?_ ?_
                        rotate_left
                        ·intro w'
                         go_simp
                         with_reducible rfl
                        rotate_left
                        ·simp only [Act.put, List.setIfInBounds_toArray, List.set_cons_zero, List.set_cons_succ, i64_w, i32_w]
                         rfl
                        refine pure_ (i := 6) (N := some 43) (v := ?_) (a' := ?_) #[true, true, true, true, true, true, true, false, false, false, false, false, false, false, false, false, false] rfl rfl (any_of HT_.out (by kernel_rfl)) (fun _ _ _ h => h) (Or.inl ⟨by rfl, ?_⟩) ?_ ?_
                        rotate_left
                        ·intro w'
                         go_simp
                         with_reducible rfl
                        rotate_left
                        ·simp only [Act.put, List.setIfInBounds_toArray, List.set_cons_zero, List.set_cons_succ, i64_w, i32_w]
                         rfl
                        refine pure_ (i := 7) (N := some 44) (v := ?_) (a' := ?_) #[true, true, true, true, true, true, true, true, false, false, false, false, false, false, false, false, false] rfl rfl (any_of HT_.out (by kernel_rfl)) (fun _ _ _ h => h) (Or.inl ⟨by rfl, ?_⟩) ?_ ?_
                        rotate_left
                        ·intro w'
                         go_simp
                         with_reducible rfl
                        rotate_left
                        ·simp only [Act.put, List.setIfInBounds_toArray, List.set_cons_zero, List.set_cons_succ, i64_w, i32_w]
                         rfl
                        refine pure_ (i := 11) (N := some 48) (v := ?_) (a' := ?_) #[true, true, true, true, true, true, true, true, false, false, false, true, false, false, false, false, false] rfl rfl (any_of HT_.out (by kernel_rfl)) (fun _ _ _ h => h) (Or.inl ⟨by rfl, ?_⟩) ?_ ?_
                        rotate_left
                        ·intro w'
                         go_simp
                         with_reducible rfl
                        rotate_left
                        ·simp only [Act.put, List.setIfInBounds_toArray, List.set_cons_zero, List.set_cons_succ, i64_w, i32_w]
                         rfl
                        refine pure_ (i := 12) (N := some 49) (v := ?_) (a' := ?_) #[true, true, true, true, true, true, true, true, false, false, false, true, true, false, false, false, false] rfl rfl (any_of HT_.out (by kernel_rfl)) (fun _ _ _ h => h) (Or.inl ⟨by rfl, ?_⟩) ?_ ?_
                        rotate_left
                        ·intro w'
                         go_simp
                         with_reducible rfl
                        rotate_left
                        ·simp only [Act.put, List.setIfInBounds_toArray, List.set_cons_zero, List.set_cons_succ, i64_w, i32_w]
                         rfl
                        refine pure_ (i := 13) (N := some 50) (v := ?_) (a' := ?_) #[true, true, true, true, true, true, true, true, false, false, false, true, true, true, false, false, false] rfl rfl (any_of HT_.out (by kernel_rfl)) (fun _ _ _ h => h) (Or.inl ⟨by rfl, ?_⟩) ?_ ?_
                        rotate_left
                        ·intro w'
                         go_simp
                         with_reducible rfl
                        rotate_left
                        ·simp only [Act.put, List.setIfInBounds_toArray, List.set_cons_zero, List.set_cons_succ, i64_w, i32_w]
                         rfl
                        refine take_ (i := 8) (N := some 45) (v := ?_) (a' := ?_) #[true, true, true, true, true, true, true, true, true, false, false, true, true, true, false, false, false] rfl rfl (take_ofW HT_.out HW_.out (by kernel_rfl)) (fun _ _ _ h => h) (Or.inl ⟨by rfl, ?_⟩) hHeld ?_ ?_
                        rotate_left
                        ·rintro w' ⟨s0, s1, s2⟩
                         go_simp
                         with_reducible rfl
                        rotate_left
                        ·simp only [Act.put, List.setIfInBounds_toArray, List.set_cons_zero, List.set_cons_succ, i64_w, i32_w]
                         rfl
                        refine pure_ (i := 9) (N := some 46) (v := ?_) (a' := ?_) #[true, true, true, true, true, true, true, true, true, true, false, true, true, true, false, false, false] rfl rfl (any_of HT_.out (by kernel_rfl)) (fun _ _ _ h => h) (Or.inl ⟨by rfl, ?_⟩) ?_ ?_
                        rotate_left
                        ·intro w'
                         go_simp
                         with_reducible rfl
                        rotate_left
                        ·simp only [Act.put, List.setIfInBounds_toArray, List.set_cons_zero, List.set_cons_succ, i64_w, i32_w]
                         rfl
                        refine take_ (i := 10) (N := some 47) (v := ?_) (a' := ?_) #[true, true, true, true, true, true, true, true, true, true, true, true, true, true, false, false, false] rfl rfl (take_ofW HT_.out HW_.out (by kernel_rfl)) (fun _ _ _ h => h) (Or.inl ⟨by rfl, ?_⟩) hHeld ?_ ?_
                        rotate_left
                        ·rintro w' ⟨s0, s1, s2⟩
                         go_simp
                         with_reducible rfl
                        rotate_left
                        ·simp only [Act.put, List.setIfInBounds_toArray, List.set_cons_zero, List.set_cons_succ, i64_w, i32_w]
                         rfl
                        refine take_ (i := 14) (N := some 51) (v := ?_) (a' := ?_) #[true, true, true, true, true, true, true, true, true, true, true, true, true, true, true, false, false] rfl rfl (take_ofW HT_.out HW_.out (by kernel_rfl)) (fun _ _ _ h => h) (Or.inl ⟨by rfl, ?_⟩) hHeld ?_ ?_
                        rotate_left
                        ·rintro w' ⟨s0, s1, s2⟩
                         go_simp
                         with_reducible rfl
                        rotate_left
                        ·simp only [Act.put, List.setIfInBounds_toArray, List.set_cons_zero, List.set_cons_succ, i64_w, i32_w]
                         rfl
                        refine pure_ (i := 15) (N := some 52) (v := ?_) (a' := ?_) #[true, true, true, true, true, true, true, true, true, true, true, true, true, true, true, true, false] rfl rfl (any_of HT_.out (by kernel_rfl)) (fun _ _ _ h => h) (Or.inl ⟨by rfl, ?_⟩) ?_ ?_
                        rotate_left
                        ·intro w'
                         go_simp
                         with_reducible rfl
                        rotate_left
                        ·simp only [Act.put, List.setIfInBounds_toArray, List.set_cons_zero, List.set_cons_succ, i64_w, i32_w]
                         rfl
                        refine pure_ (i := 16) (N := some 53) (v := ?_) (a' := ?_) #[true, true, true, true, true, true, true, true, true, true, true, true, true, true, true, true, true] rfl rfl (any_of HT_.out (by kernel_rfl)) (fun _ _ _ h => h) (Or.inl ⟨by rfl, ?_⟩) ?_ ?_
                        rotate_left
                        ·intro w'
                         go_simp
                         with_reducible rfl
                        rotate_left
                        ·simp only [Act.put, List.setIfInBounds_toArray, List.set_cons_zero, List.set_cons_succ, i64_w, i32_w]
                         rfl
                        refine done_ (done_of HT_.out (by kernel_rfl)) ?_
                        try go_wp2_with (first | ((with_reducible refine gate_dst (N := 56) rfl ?_); refine Kd.R_lit (Kd.int .i64) _ 3 ?hg (N := 56) ?hd (xs := ([] : List Int)) (inner := []) (ok := fun _ => True) (okp := fun _ => True) ?hr ?hp (fun _ hk => hk) trivial (Below.refl _ _) (Nat.le_refl _) (by simp) ?_; (case hd => rfl); (case hg => rfl); (case hr => first | (go_simp; done) | (go_simp; rfl)); (case hp => exact (Reps.none _ _)); intro v652 w32 ho33 hb hg_ hnew_; clear hg_ hnew_; (first | rw [← Ny651.out] at ho33 | (simp only [Int.reduceToNat] at ho33; rw [← Ny651.out] at ho33)); have n0_ := Aside0.mk (Kd.R_elder' (by (with_reducible repeat (first | apply Kd.R_alloc | apply Kd.R_drewN | apply Kd.R_drew)); exact HO_3.out) (Kd.R_base ho33) hb); have n1_ := Aside0.mk (Kd.R_elder' (by (with_reducible repeat (first | apply Kd.R_alloc | apply Kd.R_drewN | apply Kd.R_drew)); exact HO_4.out) (Kd.R_base ho33) hb); have n2_ := Aside0.mk (Kd.R_lower (Kd.R_new' (Kd.R_new' ho33 (Kd.R_lt (by (with_reducible repeat (first | apply Kd.R_alloc | apply Kd.R_drewN | apply Kd.R_drew)); exact HO_3.out))) (Kd.R_lt (by (with_reducible repeat (first | apply Kd.R_alloc | apply Kd.R_drewN | apply Kd.R_drew)); exact HO_4.out))) (below_size (by repeat (first | (with_reducible first | exact HB.out | apply below_alloc | apply pw_below_drewN | apply below_drew1) | exact HB.out)))); have n3_ := Aside0.mk (below_step (by repeat (first | (with_reducible first | exact HB.out | apply below_alloc | apply pw_below_drewN | apply below_drew1) | exact HB.out)) hb); clear HO_3; clear HO_4; clear HB; have HO_3 := n0_; have HO_4 := n1_; have HO653 := n2_; have HB := n3_; clear n0_ n1_ n2_ n3_; clear hb ho33; have q34 : (x6_2 : Int) ≤ ((x4_1.length : Int) : Int) := of_decide_eq_true (by first | (with_reducible assumption) | assumption); obtain ⟨i034, hi034, _, hsz34, _⟩ := info_parts info3; have hroom34 : x4_1.length ≤ co13 := (Kd.R_reads' HO_4.out).2.1; have hC34 : Kd.F (Kd.int .i64) _ _ (some ad648) x4_1.length x4_1 := (Kd.V_at (base := w.heap.size) (Kd.R_V HO_4.out)).2.2; have hcut34 := cut_to (P := Try.prog) 22 3 .i64 Try.underlying22 hi034 (some ad648) x4_1.length co13 x6_2 (of_decide_eq_true (by first | (with_reducible assumption) | assumption)) q34 hroom34; have hr34 := Kd.F_take (m := (x6_2 : Int).toNat) hC34 (by omega); have hy34 : y654.length = (x6_2 : Int).toNat := (by rw [Ny654.out, List.length_take]; omega); rw [← Ny654.out] at hr34; rw [← hy34] at hcut34; have HO658 := Aside0.mk (show Kd.V (Kd.int .i64) 3 _ w.heap.size _ (.slice (some ad648) y654.length co13) y654 from Kd.V_mk (by omega) hr34); have HC658 := Aside0.mk (show y654.length ≤ co13 from by omega); clear hr34 hC34 hroom34 hi034 hsz34; have KY34 := Aside0.mk hy34; clear hy34; replace q34 := eq_true q34) | ((with_reducible refine gate_builtin (b := .append) (xs := #[.tmp 56, .tmp 59]) rfl ?_); at_builtin; refine Kd.R_append_rows (Kd.int .i64) (w0 := w) w.heap.size rfl (.tmp 56) (.tmp 59) 22 3 (.int .i64 0) 8 rfl Try.underlying22 info3 rfl (by decide) (by omega) v652 y651 y654 _ _ _ (fun k_ => some k_ ≠ (v642 : Value).ownBlock ∧ some k_ ≠ (.slice (some ad648) x4_1.length co13 : Value).ownBlock) (fun _ => False) rfl rfl ?aO ?aR (fun _ _ h => h) (fun _ h => h.elim) ?aF ?aB ?aS ?aL ?_; (case aR => repeat (first | exact (Kd.V_reads' HO658.out).2.2 | (with_reducible refine Kd.C_alloc ?_ _) | (with_reducible refine Kd.C_drewN ?_ _) | (with_reducible refine Kd.C_drew ?_))); (case aB => exact (by repeat (first | (with_reducible first | exact HB.out | apply below_alloc | apply pw_below_drewN | apply below_drew1) | exact HB.out))); (case aF => exact (fun k_ hk => ⟨Kd.fresh' (Kd.R_lt (by (with_reducible repeat (first | apply Kd.R_alloc | apply Kd.R_drewN | apply Kd.R_drew)); exact HO_3.out)) k_ hk, Kd.fresh' (Kd.R_lt (by (with_reducible repeat (first | apply Kd.R_alloc | apply Kd.R_drewN | apply Kd.R_drew)); exact HO_4.out)) k_ hk⟩)); (case aO => exact (by (with_reducible repeat (first | apply Kd.R_alloc | apply Kd.R_drewN | apply Kd.R_drew)); exact Kd.R_mono HO653.out (fun _ hk => ⟨hk.1.2, hk.2⟩))); (case aS => exact (below_size (by repeat (first | (with_reducible first | exact HB.out | apply below_alloc | apply pw_below_drewN | apply below_drew1) | exact HB.out)))); (case aL => have := LMc26.out; omega); intro v660 w35 ho hb hg hat; rw [← Ny659.out] at ho; have n0_ := Aside0.mk (Kd.R_after (ok := (fun k_ => some k_ ≠ (.slice (some ad648) x4_1.length co13 : Value).ownBlock)) (by (with_reducible repeat (first | apply Kd.R_alloc | apply Kd.R_drewN | apply Kd.R_drew)); exact HO_3.out) hg hat); have n1_ := Aside0.mk (Kd.R_after (ok := (fun k_ => some k_ ≠ (v642 : Value).ownBlock)) (by (with_reducible repeat (first | apply Kd.R_alloc | apply Kd.R_drewN | apply Kd.R_drew)); exact HO_4.out) hg hat); have n2_ := Aside0.mk (Kd.V_afterv (ok := (fun k_ => some k_ ≠ (v642 : Value).ownBlock)) (by (with_reducible repeat (first | apply Kd.V_alloc | apply Kd.V_drewN | apply Kd.V_drew)); exact HO658.out) hg hat); have n3_ := Aside0.mk (hb); have n4_ := Aside0.mk (ho); clear HO_3; clear HO_4; clear HO658; clear HB; clear HO653; have HO_3 := n0_; have HO_4 := n1_; have HO658 := n2_; have HB := n3_; have HO661 := n4_; clear n0_ n1_ n2_ n3_ n4_; clear ho hb hg hat) | ((with_reducible refine gate_builtin (b := .append) (xs := #[.tmp 61, .tmp 63]) rfl ?_); at_builtin; refine Kd.R_append (Kd.int .i64) (w0 := w) w.heap.size rfl (.tmp 61) (.tmp 63) 22 3 (.int .i64 0) 8 rfl Try.underlying22 info3 rfl (by decide) (by omega) v660 y659 x5_1 [.int .i64 x5_1] (fun k_ => some k_ ≠ (v642 : Value).ownBlock ∧ some k_ ≠ (.slice (some ad648) x4_1.length co13 : Value).ownBlock) (fun _ => False) rfl rfl ?aP (fun _ hk => hk.elim) ?aF ?aO ?aB ?aS ?aL ?_; (case aP => exact rfl); (case aB => exact (by repeat (first | (with_reducible first | exact HB.out | apply below_alloc | apply pw_below_drewN | apply below_drew1) | exact HB.out))); (case aF => exact (fun k_ hk => ⟨Kd.fresh' (Kd.R_lt (by (with_reducible repeat (first | apply Kd.R_alloc | apply Kd.R_drewN | apply Kd.R_drew)); exact HO_3.out)) k_ hk, Kd.fresh' (Kd.R_lt (by (with_reducible repeat (first | apply Kd.R_alloc | apply Kd.R_drewN | apply Kd.R_drew)); exact HO_4.out)) k_ hk⟩)); (case aO => exact (by (with_reducible repeat (first | apply Kd.R_alloc | apply Kd.R_drewN | apply Kd.R_drew)); exact HO661.out)); (case aS => exact (below_size (by repeat (first | (with_reducible first | exact HB.out | apply below_alloc | apply pw_below_drewN | apply below_drew1) | exact HB.out)))); (case aL => have := LMc27.out; omega); intro v663 w36 ho hb hg hat; rw [← Ny662.out] at ho; have n0_ := Aside0.mk (Kd.R_after (ok := (fun k_ => some k_ ≠ (.slice (some ad648) x4_1.length co13 : Value).ownBlock)) (by (with_reducible repeat (first | apply Kd.R_alloc | apply Kd.R_drewN | apply Kd.R_drew)); exact HO_3.out) hg hat); have n1_ := Aside0.mk (Kd.R_after (ok := (fun k_ => some k_ ≠ (v642 : Value).ownBlock)) (by (with_reducible repeat (first | apply Kd.R_alloc | apply Kd.R_drewN | apply Kd.R_drew)); exact HO_4.out) hg hat); have n2_ := Aside0.mk (Kd.V_afterv (ok := (fun k_ => some k_ ≠ (v642 : Value).ownBlock)) (by (with_reducible repeat (first | apply Kd.V_alloc | apply Kd.V_drewN | apply Kd.V_drew)); exact HO658.out) hg hat); have n3_ := Aside0.mk (hb); have n4_ := Aside0.mk (ho); clear HO_3; clear HO_4; clear HO658; clear HB; clear HO661; have HO_3 := n0_; have HO_4 := n1_; have HO658 := n2_; have HB := n3_; have HO664 := n4_; clear n0_ n1_ n2_ n3_ n4_; clear ho hb hg hat; have q37 : (x6_2 : Int) ≤ ((x4_1.length : Int) : Int) := of_decide_eq_true (by first | (with_reducible assumption) | assumption); obtain ⟨i037, hi037, _, hsz37, _⟩ := info_parts info3; have hroom37 : x4_1.length ≤ co13 := (Kd.R_reads' HO_4.out).2.1; have hC37 : Kd.F (Kd.int .i64) _ _ (some ad648) x4_1.length x4_1 := (Kd.V_at (base := w.heap.size) (Kd.R_V HO_4.out)).2.2; have q037 : (0 : Int) ≤ (x6_2 : Int) := of_decide_eq_true (by first | (with_reducible assumption) | assumption); have hcut37 := cut_from (P := Try.prog) 22 3 .i64 Try.underlying22 hi037 1 hsz37 (some ad648) x4_1.length co13 x6_2 q037 q37; have hr37 := Kd.F_cut (m := (x6_2 : Int).toNat) (c := co13) hC37 (by omega) hroom37; obtain ⟨A37, hA37⟩ : ∃ A1, A1 = (if co13 = (x6_2 : Int).toNat then (some ad648) else ((some ad648) : Option Addr).map (·.add ((x6_2 : Int).toNat * 1))) := ⟨_, rfl⟩; obtain ⟨c37, hc37⟩ : ∃ c1, c1 = co13 - (x6_2 : Int).toNat := ⟨_, rfl⟩; have hy37 : y665.length = x4_1.length - (x6_2 : Int).toNat := (by rw [Ny665.out, List.length_drop] <;> omega); rw [show (x4_1).drop (x6_2 : Int).toNat = y665 from Ny665.out.symm] at hr37; replace hr37 : Kd.F (Kd.int .i64) _ _ A37 y665.length y665 := (by rw [hA37]; exact hr37); rw [← hy37, ← hA37, ← hc37] at hcut37; have HO669 := Aside0.mk (show Kd.V (Kd.int .i64) 3 _ w.heap.size _ (.slice A37 y665.length c37) y665 from Kd.V_mk (by rw [hy37, hc37]; exact Nat.sub_le_sub_right hroom37 _) hr37); have HC669 := Aside0.mk (show y665.length ≤ c37 from by rw [hy37, hc37]; exact Nat.sub_le_sub_right hroom37 _); clear hr37 hC37 hroom37 hi037 hsz37 hc37; have KY37 := Aside0.mk hy37; have KA37 := Aside0.mk hA37; clear hy37 hA37; replace q37 := eq_true q37) | ((with_reducible refine gate_builtin (b := .append) (xs := #[.tmp 65, .tmp 68]) rfl ?_); at_builtin; refine Kd.R_append_rows (Kd.int .i64) (w0 := w) w.heap.size rfl (.tmp 65) (.tmp 68) 22 3 (.int .i64 0) 8 rfl Try.underlying22 info3 rfl (by decide) (by omega) v663 y662 y665 _ _ _ (fun k_ => some k_ ≠ (v642 : Value).ownBlock ∧ some k_ ≠ (.slice (some ad648) x4_1.length co13 : Value).ownBlock) (fun _ => False) rfl rfl ?aO ?aR (fun _ _ h => h) (fun _ h => h.elim) ?aF ?aB ?aS ?aL ?_; (case aR => repeat (first | exact (Kd.V_reads' HO669.out).2.2 | (with_reducible refine Kd.C_alloc ?_ _) | (with_reducible refine Kd.C_drewN ?_ _) | (with_reducible refine Kd.C_drew ?_))); (case aB => exact (by repeat (first | (with_reducible first | exact HB.out | apply below_alloc | apply pw_below_drewN | apply below_drew1) | exact HB.out))); (case aF => exact (fun k_ hk => ⟨Kd.fresh' (Kd.R_lt (by (with_reducible repeat (first | apply Kd.R_alloc | apply Kd.R_drewN | apply Kd.R_drew)); exact HO_3.out)) k_ hk, Kd.fresh' (Kd.R_lt (by (with_reducible repeat (first | apply Kd.R_alloc | apply Kd.R_drewN | apply Kd.R_drew)); exact HO_4.out)) k_ hk⟩)); (case aO => exact (by (with_reducible repeat (first | apply Kd.R_alloc | apply Kd.R_drewN | apply Kd.R_drew)); exact HO664.out)); (case aS => exact (below_size (by repeat (first | (with_reducible first | exact HB.out | apply below_alloc | apply pw_below_drewN | apply below_drew1) | exact HB.out)))); (case aL => have := LMc30.out; omega); intro v671 w38 ho hb hg hat; rw [← Ny670.out] at ho; have n0_ := Aside0.mk (Kd.R_after (ok := (fun k_ => some k_ ≠ (.slice (some ad648) x4_1.length co13 : Value).ownBlock)) (by (with_reducible repeat (first | apply Kd.R_alloc | apply Kd.R_drewN | apply Kd.R_drew)); exact HO_3.out) hg hat); have n1_ := Aside0.mk (Kd.R_after (ok := (fun k_ => some k_ ≠ (v642 : Value).ownBlock)) (by (with_reducible repeat (first | apply Kd.R_alloc | apply Kd.R_drewN | apply Kd.R_drew)); exact HO_4.out) hg hat); have n2_ := Aside0.mk (Kd.V_afterv (ok := (fun k_ => some k_ ≠ (v642 : Value).ownBlock)) (by (with_reducible repeat (first | apply Kd.V_alloc | apply Kd.V_drewN | apply Kd.V_drew)); exact HO658.out) hg hat); have n3_ := Aside0.mk (Kd.V_afterv (ok := (fun k_ => some k_ ≠ (v642 : Value).ownBlock)) (by (with_reducible repeat (first | apply Kd.V_alloc | apply Kd.V_drewN | apply Kd.V_drew)); exact HO669.out) hg hat); have n4_ := Aside0.mk (hb); have n5_ := Aside0.mk (ho); clear HO_3; clear HO_4; clear HO658; clear HO669; clear HB; clear HO664; have HO_3 := n0_; have HO_4 := n1_; have HO658 := n2_; have HO669 := n3_; have HB := n4_; have HO672 := n5_; clear n0_ n1_ n2_ n3_ n4_ n5_; clear ho hb hg hat))
                        go_roundg k2
                        case measure => have := HK1.out; have := HK2.out; omega
                        case rel => exact ⟨(y670), (wrap64 (x5_1 + 1)), (by first | rfl | (simp; done) | (simp [*]; done)), H', ⟨by have := HK1.out; have := HK2.out; omega⟩, ⟨by (with_reducible repeat (first | apply Kd.R_alloc | apply Kd.R_drewN | apply Kd.R_drew)); exact Kd.R_mono HO_3.out (fun _ hk => hk.2)⟩, ⟨by (with_reducible repeat (first | apply Kd.R_alloc | apply Kd.R_drewN | apply Kd.R_drew)); exact Kd.R_mono HO672.out (fun _ hk => hk.1)⟩, ⟨by repeat (first | (with_reducible first | exact HB.out | apply below_alloc | apply pw_below_drewN | apply below_drew1) | exact HB.out)⟩⟩
                       ·rw [if_neg c30] at H
                        exact absurd H (by simp)
                      ·rw [if_neg c27] at H
                       exact absurd H (by simp)
                     ·rw [if_neg c26] at H
                      exact absurd H (by simp)
                    ·rw [if_neg c25] at H
                     exact absurd H (by simp)
                   ·rw [if_neg c24] at H
                    exact absurd H (by simp)
                 ·rw [if_neg c21] at H
                  exact absurd H (by simp)
                ·rw [if_neg c20] at H
                 exact absurd H (by simp)
               ·rw [if_neg c19] at H
                exact absurd H (by simp)
              ·rw [if_neg c18] at H
               exact absurd H (by simp)
             ·rw [if_neg c17] at H
              exact absurd H (by simp)
            ·rw [if_neg c16] at H
             exact absurd H (by simp)
           ·rw [if_neg c14] at H
            have c14b0 : decide (0 < x6_2) = false := decide_eq_false c14
            clear c14
            obtain ⟨y673, hy673⟩ : ∃ y_ : List Int, y_ = (([] : List Int)) := ⟨_, rfl⟩
            replace H : (if 0 ≤ x6_2 then (if x6_2 ≤ (x4_1.length : Int) then ((some (x4_1.take (x6_2 : Int).toNat : List Int)).bind fun y676 => (if y673.length + y676.length < 17592186044416 then ((some (y673 ++ y676 : List Int)).bind fun y681 => (if y681.length < 17592186044416 then ((some (y681 ++ [x5_1] : List Int)).bind fun y684 => ((some (x4_1.drop (x6_2 : Int).toNat : List Int)).bind fun y687 => (if y684.length + y687.length < 17592186044416 then (spec_BestLens.l0 k2 l0 y641 (y684 ++ y687) (wrap64 (x5_1 + 1))) else (none)))) else (none))) else (none))) else (none)) else (none)) = some r := by first | (rw [hy673]; with_reducible exact H) | (have H2_ := (Option.bind_some _ _).symm.trans H; rw [hy673]; with_reducible exact H2_) | (have H2_ := (Option.bind_some _ _).symm.trans H; with_reducible exact H2_) | with_reducible exact H | (rw [hy673]; exact H) | exact H
            have Ny673 := Aside0.mk hy673
            clear hy673
            by_cases c39 : 0 ≤ x6_2
            ·rw [if_pos c39] at H
             have c39b0 := eq_true c39
             have c39b1 : decide (0 ≤ x6_2) = true := decide_eq_true c39
             clear c39
             by_cases c40 : x6_2 ≤ (x4_1.length : Int)
             ·rw [if_pos c40] at H
              have c40b0 := eq_true c40
              have c40b1 : decide (x6_2 ≤ (x4_1.length : Int)) = true := decide_eq_true c40
              clear c40
              obtain ⟨y676, hy676⟩ : ∃ y_ : List Int, y_ = (x4_1.take (x6_2 : Int).toNat) := ⟨_, rfl⟩
              replace H : (if y673.length + y676.length < 17592186044416 then ((some (y673 ++ y676 : List Int)).bind fun y681 => (if y681.length < 17592186044416 then ((some (y681 ++ [x5_1] : List Int)).bind fun y684 => ((some (x4_1.drop (x6_2 : Int).toNat : List Int)).bind fun y687 => (if y684.length + y687.length < 17592186044416 then (spec_BestLens.l0 k2 l0 y641 (y684 ++ y687) (wrap64 (x5_1 + 1))) else (none)))) else (none))) else (none)) = some r := by first | (rw [hy676]; with_reducible exact H) | (have H2_ := (Option.bind_some _ _).symm.trans H; rw [hy676]; with_reducible exact H2_) | (have H2_ := (Option.bind_some _ _).symm.trans H; with_reducible exact H2_) | with_reducible exact H | (rw [hy676]; exact H) | exact H
              have Ny676 := Aside0.mk hy676
              clear hy676
              by_cases c41 : y673.length + y676.length < 17592186044416
              ·rw [if_pos c41] at H
               have LMc41 := Aside0.mk c41
               clear c41
               obtain ⟨y681, hy681⟩ : ∃ y_ : List Int, y_ = (y673 ++ y676) := ⟨_, rfl⟩
               replace H : (if y681.length < 17592186044416 then ((some (y681 ++ [x5_1] : List Int)).bind fun y684 => ((some (x4_1.drop (x6_2 : Int).toNat : List Int)).bind fun y687 => (if y684.length + y687.length < 17592186044416 then (spec_BestLens.l0 k2 l0 y641 (y684 ++ y687) (wrap64 (x5_1 + 1))) else (none)))) else (none)) = some r := by first | (rw [hy681]; with_reducible exact H) | (have H2_ := (Option.bind_some _ _).symm.trans H; rw [hy681]; with_reducible exact H2_) | (have H2_ := (Option.bind_some _ _).symm.trans H; with_reducible exact H2_) | with_reducible exact H | (rw [hy681]; exact H) | exact H
               have Ny681 := Aside0.mk hy681
               clear hy681
               by_cases c42 : y681.length < 17592186044416
               ·rw [if_pos c42] at H
                have LMc42 := Aside0.mk c42
                clear c42
                obtain ⟨y684, hy684⟩ : ∃ y_ : List Int, y_ = (y681 ++ [x5_1]) := ⟨_, rfl⟩
                replace H : ((some (x4_1.drop (x6_2 : Int).toNat : List Int)).bind fun y687 => (if y684.length + y687.length < 17592186044416 then (spec_BestLens.l0 k2 l0 y641 (y684 ++ y687) (wrap64 (x5_1 + 1))) else (none))) = some r := by first | (rw [hy684]; with_reducible exact H) | (have H2_ := (Option.bind_some _ _).symm.trans H; rw [hy684]; with_reducible exact H2_) | (have H2_ := (Option.bind_some _ _).symm.trans H; with_reducible exact H2_) | with_reducible exact H | (rw [hy684]; exact H) | exact H
                have Ny684 := Aside0.mk hy684
                clear hy684
                have c43b0 := eq_true (of_decide_eq_true (by first | (with_reducible assumption) | assumption) : 0 ≤ x6_2)
                have c44b0 := eq_true (of_decide_eq_true (by first | (with_reducible assumption) | assumption) : x6_2 ≤ (x4_1.length : Int))
                obtain ⟨y687, hy687⟩ : ∃ y_ : List Int, y_ = (x4_1.drop (x6_2 : Int).toNat) := ⟨_, rfl⟩
                replace H : (if y684.length + y687.length < 17592186044416 then (spec_BestLens.l0 k2 l0 y641 (y684 ++ y687) (wrap64 (x5_1 + 1))) else (none)) = some r := by first | (rw [hy687]; with_reducible exact H) | (have H2_ := (Option.bind_some _ _).symm.trans H; rw [hy687]; with_reducible exact H2_) | (have H2_ := (Option.bind_some _ _).symm.trans H; with_reducible exact H2_) | with_reducible exact H | (rw [hy687]; exact H) | exact H
                have Ny687 := Aside0.mk hy687
                clear hy687
                by_cases c45 : y684.length + y687.length < 17592186044416
                ·rw [if_pos c45] at H
                 have LMc45 := Aside0.mk c45
                 clear c45
                 obtain ⟨y692, hy692⟩ : ∃ y_ : List Int, y_ = (y684 ++ y687) := ⟨_, rfl⟩
                 replace H : (spec_BestLens.l0 k2 l0 y641 y692 (wrap64 (x5_1 + 1))) = some r := by first | (rw [hy692]; with_reducible exact H) | (have H2_ := (Option.bind_some _ _).symm.trans H; rw [hy692]; with_reducible exact H2_) | (have H2_ := (Option.bind_some _ _).symm.trans H; with_reducible exact H2_) | with_reducible exact H | (rw [hy692]; exact H) | exact H
                 have Ny692 := Aside0.mk hy692
                 clear hy692
                 have H' := Aside0.mk H
                 clear H
                 try go_wp2
                 have n0_ := Aside0.mk (Kd.R_drew HO_3.out)
                 have n1_ := Aside0.mk (Kd.R_drew HO_4.out)
                 have n2_ := Aside0.mk (below_drew1 HB.out)
                 clear HO_3
                 clear HO_4
                 clear HB
                 have HO_3 := n0_
                 have HO_4 := n1_
                 have HB := n2_
                 clear n0_ n1_ n2_
                 refine start_ (n := 17) (S := fun w' => True) (ds := []) #[false, false, false, false, false, false, false, false, false, false, false, false, false, false, false, false, false] (by kernel_rfl) rfl rfl trivial (fun hHeld => ?_); refine with_tabW spec_BestLens.tab10 spec_BestLens.bits10 (fun HT_ HW_ => ?_)
                 generalize wr.drew = w46 at HO_3 HO_4 HB hHeld ⊢
                 refine pure_ (i := 0) (N := some 37) (v := ?_) (a' := ?_) #[true, false, false, false, false, false, false, false, false, false, false, false, false, false, false, false, false] rfl rfl (any_of HT_.out (by kernel_rfl)) (fun _ _ _ h => h) (Or.inl ⟨by rfl, ?_⟩) ?_ ?_
                 rotate_left
                 ·intro w'
                  go_simp
                  with_reducible rfl
                 rotate_left
                 ·simp only [Act.put, List.setIfInBounds_toArray, List.set_cons_zero, List.set_cons_succ, i64_w, i32_w]
                  rfl
                 refine pure_ (i := 1) (N := some 38) (v := ?_) (a' := ?_) #[true, true, false, false, false, false, false, false, false, false, false, false, false, false, false, false, false] rfl rfl (any_of HT_.out (by kernel_rfl)) (fun _ _ _ h => h) (Or.inl ⟨by rfl, ?_⟩) ?_ ?_
                 rotate_left
                 ·intro w'
                  go_simp
                  with_reducible rfl
                 rotate_left
                 ·simp only [Act.put, List.setIfInBounds_toArray, List.set_cons_zero, List.set_cons_succ, i64_w, i32_w]
                  rfl
                 refine pure_ (i := 2) (N := some 39) (v := ?_) (a' := ?_) #[true, true, true, false, false, false, false, false, false, false, false, false, false, false, false, false, false] rfl rfl (any_of HT_.out (by kernel_rfl)) (fun _ _ _ h => h) (Or.inl ⟨by rfl, ?_⟩) ?_ ?_
                 rotate_left
                 ·intro w'
                  go_simp
                  with_reducible rfl
                 rotate_left
                 ·simp only [Act.put, List.setIfInBounds_toArray, List.set_cons_zero, List.set_cons_succ, i64_w, i32_w]
                  rfl
                 refine pure_ (i := 3) (N := some 40) (v := undef) (a' := ?_) #[true, true, true, true, false, false, false, false, false, false, false, false, false, false, false, false, false] rfl rfl (any_of HT_.out (by kernel_rfl)) (fun _ _ _ h => h) (Or.inr ⟨by rfl, rfl⟩) ?_ ?_
                 rotate_left
                 ·simp only [Act.put, List.setIfInBounds_toArray, List.set_cons_zero, List.set_cons_succ, i64_w, i32_w]
                  rfl
                 refine pure_ (i := 4) (N := some 41) (v := undef) (a' := ?_) #[true, true, true, true, true, false, false, false, false, false, false, false, false, false, false, false, false] rfl rfl (any_of HT_.out (by kernel_rfl)) (fun _ _ _ h => h) (Or.inr ⟨by rfl, rfl⟩) ?_ ?_
                 rotate_left
                 ·simp only [Act.put, List.setIfInBounds_toArray, List.set_cons_zero, List.set_cons_succ, i64_w, i32_w]
                  rfl
                 refine pure_ (i := 5) (N := some 42) (v := undef) (a' := ?_) #[true, true, true, true, true, true, false, false, false, false, false, false, false, false, false, false, false] rfl rfl (any_of HT_.out (by kernel_rfl)) (fun _ _ _ h => h) (Or.inr ⟨by rfl, rfl⟩) ?_ ?_
                 rotate_left
                 ·simp only [Act.put, List.setIfInBounds_toArray, List.set_cons_zero, List.set_cons_succ, i64_w, i32_w]
                  rfl
                 refine pure_ (i := 6) (N := some 43) (v := undef) (a' := ?_) #[true, true, true, true, true, true, true, false, false, false, false, false, false, false, false, false, false] rfl rfl (any_of HT_.out (by kernel_rfl)) (fun _ _ _ h => h) (Or.inr ⟨by rfl, rfl⟩) ?_ ?_
                 rotate_left
                 ·simp only [Act.put, List.setIfInBounds_toArray, List.set_cons_zero, List.set_cons_succ, i64_w, i32_w]
                  rfl
                 refine pure_ (i := 7) (N := some 44) (v := undef) (a' := ?_) #[true, true, true, true, true, true, true, true, false, false, false, false, false, false, false, false, false] rfl rfl (any_of HT_.out (by kernel_rfl)) (fun _ _ _ h => h) (Or.inr ⟨by rfl, rfl⟩) ?_ ?_
                 rotate_left
                 ·simp only [Act.put, List.setIfInBounds_toArray, List.set_cons_zero, List.set_cons_succ, i64_w, i32_w]
                  rfl
                 refine pure_ (i := 8) (N := some 45) (v := undef) (a' := ?_) #[true, true, true, true, true, true, true, true, true, false, false, false, false, false, false, false, false] rfl rfl (any_of HT_.out (by kernel_rfl)) (fun _ _ _ h => h) (Or.inr ⟨by rfl, rfl⟩) ?_ ?_
                 rotate_left
                 ·simp only [Act.put, List.setIfInBounds_toArray, List.set_cons_zero, List.set_cons_succ, i64_w, i32_w]
                  rfl
                 refine pure_ (i := 9) (N := some 46) (v := undef) (a' := ?_) #[true, true, true, true, true, true, true, true, true, true, false, false, false, false, false, false, false] rfl rfl (any_of HT_.out (by kernel_rfl)) (fun _ _ _ h => h) (Or.inr ⟨by rfl, rfl⟩) ?_ ?_
                 rotate_left
                 ·simp only [Act.put, List.setIfInBounds_toArray, List.set_cons_zero, List.set_cons_succ, i64_w, i32_w]
                  rfl
                 refine pure_ (i := 10) (N := some 47) (v := undef) (a' := ?_) #[true, true, true, true, true, true, true, true, true, true, true, false, false, false, false, false, false] rfl rfl (any_of HT_.out (by kernel_rfl)) (fun _ _ _ h => h) (Or.inr ⟨by rfl, rfl⟩) ?_ ?_
                 rotate_left
                 ·simp only [Act.put, List.setIfInBounds_toArray, List.set_cons_zero, List.set_cons_succ, i64_w, i32_w]
                  rfl
                 refine pure_ (i := 11) (N := some 48) (v := undef) (a' := ?_) #[true, true, true, true, true, true, true, true, true, true, true, true, false, false, false, false, false] rfl rfl (any_of HT_.out (by kernel_rfl)) (fun _ _ _ h => h) (Or.inr ⟨by rfl, rfl⟩) ?_ ?_
                 rotate_left
                 ·simp only [Act.put, List.setIfInBounds_toArray, List.set_cons_zero, List.set_cons_succ, i64_w, i32_w]
                  rfl
                 refine pure_ (i := 12) (N := some 49) (v := undef) (a' := ?_) #[true, true, true, true, true, true, true, true, true, true, true, true, true, false, false, false, false] rfl rfl (any_of HT_.out (by kernel_rfl)) (fun _ _ _ h => h) (Or.inr ⟨by rfl, rfl⟩) ?_ ?_
                 rotate_left
                 ·simp only [Act.put, List.setIfInBounds_toArray, List.set_cons_zero, List.set_cons_succ, i64_w, i32_w]
                  rfl
                 refine pure_ (i := 13) (N := some 50) (v := undef) (a' := ?_) #[true, true, true, true, true, true, true, true, true, true, true, true, true, true, false, false, false] rfl rfl (any_of HT_.out (by kernel_rfl)) (fun _ _ _ h => h) (Or.inr ⟨by rfl, rfl⟩) ?_ ?_
                 rotate_left
                 ·simp only [Act.put, List.setIfInBounds_toArray, List.set_cons_zero, List.set_cons_succ, i64_w, i32_w]
                  rfl
                 refine pure_ (i := 14) (N := some 51) (v := undef) (a' := ?_) #[true, true, true, true, true, true, true, true, true, true, true, true, true, true, true, false, false] rfl rfl (any_of HT_.out (by kernel_rfl)) (fun _ _ _ h => h) (Or.inr ⟨by rfl, rfl⟩) ?_ ?_
                 rotate_left
                 ·simp only [Act.put, List.setIfInBounds_toArray, List.set_cons_zero, List.set_cons_succ, i64_w, i32_w]
                  rfl
                 refine pure_ (i := 15) (N := some 52) (v := undef) (a' := ?_) #[true, true, true, true, true, true, true, true, true, true, true, true, true, true, true, true, false] rfl rfl (any_of HT_.out (by kernel_rfl)) (fun _ _ _ h => h) (Or.inr ⟨by rfl, rfl⟩) ?_ ?_
                 rotate_left
                 ·simp only [Act.put, List.setIfInBounds_toArray, List.set_cons_zero, List.set_cons_succ, i64_w, i32_w]
                  rfl
                 refine pure_ (i := 16) (N := some 53) (v := ?_) (a' := ?_) #[true, true, true, true, true, true, true, true, true, true, true, true, true, true, true, true, true] rfl rfl (any_of HT_.out (by kernel_rfl)) (fun _ _ _ h => h) (Or.inl ⟨by rfl, ?_⟩) ?_ ?_
                 rotate_left
                 ·intro w'
                  go_simp
                  with_reducible rfl
                 rotate_left
                 ·simp only [Act.put, List.setIfInBounds_toArray, List.set_cons_zero, List.set_cons_succ, i64_w, i32_w]
                  rfl
                 refine done_ (done_of HT_.out (by kernel_rfl)) ?_
                 try go_wp2_with (first | ((with_reducible refine gate_dst (N := 56) rfl ?_); refine Kd.R_lit (Kd.int .i64) _ 3 ?hg (N := 56) ?hd (xs := ([] : List Int)) (inner := []) (ok := fun _ => True) (okp := fun _ => True) ?hr ?hp (fun _ hk => hk) trivial (Below.refl _ _) (Nat.le_refl _) (by simp) ?_; (case hd => rfl); (case hg => rfl); (case hr => first | (go_simp; done) | (go_simp; rfl)); (case hp => exact (Reps.none _ _)); intro v674 w47 ho48 hb hg_ hnew_; clear hg_ hnew_; (first | rw [← Ny673.out] at ho48 | (simp only [Int.reduceToNat] at ho48; rw [← Ny673.out] at ho48)); have n0_ := Aside0.mk (Kd.R_elder' (by (with_reducible repeat (first | apply Kd.R_alloc | apply Kd.R_drewN | apply Kd.R_drew)); exact HO_3.out) (Kd.R_base ho48) hb); have n1_ := Aside0.mk (Kd.R_elder' (by (with_reducible repeat (first | apply Kd.R_alloc | apply Kd.R_drewN | apply Kd.R_drew)); exact HO_4.out) (Kd.R_base ho48) hb); have n2_ := Aside0.mk (Kd.R_lower (Kd.R_new' (Kd.R_new' ho48 (Kd.R_lt (by (with_reducible repeat (first | apply Kd.R_alloc | apply Kd.R_drewN | apply Kd.R_drew)); exact HO_3.out))) (Kd.R_lt (by (with_reducible repeat (first | apply Kd.R_alloc | apply Kd.R_drewN | apply Kd.R_drew)); exact HO_4.out))) (below_size (by repeat (first | (with_reducible first | exact HB.out | apply below_alloc | apply pw_below_drewN | apply below_drew1) | exact HB.out)))); have n3_ := Aside0.mk (below_step (by repeat (first | (with_reducible first | exact HB.out | apply below_alloc | apply pw_below_drewN | apply below_drew1) | exact HB.out)) hb); clear HO_3; clear HO_4; clear HB; have HO_3 := n0_; have HO_4 := n1_; have HO675 := n2_; have HB := n3_; clear n0_ n1_ n2_ n3_; clear hb ho48; have q49 : (x6_2 : Int) ≤ ((x4_1.length : Int) : Int) := of_decide_eq_true (by first | (with_reducible assumption) | assumption); obtain ⟨i049, hi049, _, hsz49, _⟩ := info_parts info3; have hroom49 : x4_1.length ≤ co13 := (Kd.R_reads' HO_4.out).2.1; have hC49 : Kd.F (Kd.int .i64) _ _ Ao13 x4_1.length x4_1 := (Kd.V_at (base := w.heap.size) (Kd.R_V HO_4.out)).2.2; have hcut49 := cut_to (P := Try.prog) 22 3 .i64 Try.underlying22 hi049 Ao13 x4_1.length co13 x6_2 (of_decide_eq_true (by first | (with_reducible assumption) | assumption)) q49 hroom49; have hr49 := Kd.F_take (m := (x6_2 : Int).toNat) hC49 (by omega); have hy49 : y676.length = (x6_2 : Int).toNat := (by rw [Ny676.out, List.length_take]; omega); rw [← Ny676.out] at hr49; rw [← hy49] at hcut49; have HO680 := Aside0.mk (show Kd.V (Kd.int .i64) 3 _ w.heap.size _ (.slice Ao13 y676.length co13) y676 from Kd.V_mk (by omega) hr49); have HC680 := Aside0.mk (show y676.length ≤ co13 from by omega); clear hr49 hC49 hroom49 hi049 hsz49; have KY49 := Aside0.mk hy49; clear hy49; replace q49 := eq_true q49) | ((with_reducible refine gate_builtin (b := .append) (xs := #[.tmp 56, .tmp 59]) rfl ?_); at_builtin; refine Kd.R_append_rows (Kd.int .i64) (w0 := w) w.heap.size rfl (.tmp 56) (.tmp 59) 22 3 (.int .i64 0) 8 rfl Try.underlying22 info3 rfl (by decide) (by omega) v674 y673 y676 _ _ _ (fun k_ => some k_ ≠ (v642 : Value).ownBlock ∧ some k_ ≠ (.slice Ao13 x4_1.length co13 : Value).ownBlock) (fun _ => False) rfl rfl ?aO ?aR (fun _ _ h => h) (fun _ h => h.elim) ?aF ?aB ?aS ?aL ?_; (case aR => repeat (first | exact (Kd.V_reads' HO680.out).2.2 | (with_reducible refine Kd.C_alloc ?_ _) | (with_reducible refine Kd.C_drewN ?_ _) | (with_reducible refine Kd.C_drew ?_))); (case aB => exact (by repeat (first | (with_reducible first | exact HB.out | apply below_alloc | apply pw_below_drewN | apply below_drew1) | exact HB.out))); (case aF => exact (fun k_ hk => ⟨Kd.fresh' (Kd.R_lt (by (with_reducible repeat (first | apply Kd.R_alloc | apply Kd.R_drewN | apply Kd.R_drew)); exact HO_3.out)) k_ hk, Kd.fresh' (Kd.R_lt (by (with_reducible repeat (first | apply Kd.R_alloc | apply Kd.R_drewN | apply Kd.R_drew)); exact HO_4.out)) k_ hk⟩)); (case aO => exact (by (with_reducible repeat (first | apply Kd.R_alloc | apply Kd.R_drewN | apply Kd.R_drew)); exact Kd.R_mono HO675.out (fun _ hk => ⟨hk.1.2, hk.2⟩))); (case aS => exact (below_size (by repeat (first | (with_reducible first | exact HB.out | apply below_alloc | apply pw_below_drewN | apply below_drew1) | exact HB.out)))); (case aL => have := LMc41.out; omega); intro v682 w50 ho hb hg hat; rw [← Ny681.out] at ho; have n0_ := Aside0.mk (Kd.R_after (ok := (fun k_ => some k_ ≠ (.slice Ao13 x4_1.length co13 : Value).ownBlock)) (by (with_reducible repeat (first | apply Kd.R_alloc | apply Kd.R_drewN | apply Kd.R_drew)); exact HO_3.out) hg hat); have n1_ := Aside0.mk (Kd.R_after (ok := (fun k_ => some k_ ≠ (v642 : Value).ownBlock)) (by (with_reducible repeat (first | apply Kd.R_alloc | apply Kd.R_drewN | apply Kd.R_drew)); exact HO_4.out) hg hat); have n2_ := Aside0.mk (Kd.V_afterv (ok := (fun k_ => some k_ ≠ (v642 : Value).ownBlock)) (by (with_reducible repeat (first | apply Kd.V_alloc | apply Kd.V_drewN | apply Kd.V_drew)); exact HO680.out) hg hat); have n3_ := Aside0.mk (hb); have n4_ := Aside0.mk (ho); clear HO_3; clear HO_4; clear HO680; clear HB; clear HO675; have HO_3 := n0_; have HO_4 := n1_; have HO680 := n2_; have HB := n3_; have HO683 := n4_; clear n0_ n1_ n2_ n3_ n4_; clear ho hb hg hat) | ((with_reducible refine gate_builtin (b := .append) (xs := #[.tmp 61, .tmp 63]) rfl ?_); at_builtin; refine Kd.R_append (Kd.int .i64) (w0 := w) w.heap.size rfl (.tmp 61) (.tmp 63) 22 3 (.int .i64 0) 8 rfl Try.underlying22 info3 rfl (by decide) (by omega) v682 y681 x5_1 [.int .i64 x5_1] (fun k_ => some k_ ≠ (v642 : Value).ownBlock ∧ some k_ ≠ (.slice Ao13 x4_1.length co13 : Value).ownBlock) (fun _ => False) rfl rfl ?aP (fun _ hk => hk.elim) ?aF ?aO ?aB ?aS ?aL ?_; (case aP => exact rfl); (case aB => exact (by repeat (first | (with_reducible first | exact HB.out | apply below_alloc | apply pw_below_drewN | apply below_drew1) | exact HB.out))); (case aF => exact (fun k_ hk => ⟨Kd.fresh' (Kd.R_lt (by (with_reducible repeat (first | apply Kd.R_alloc | apply Kd.R_drewN | apply Kd.R_drew)); exact HO_3.out)) k_ hk, Kd.fresh' (Kd.R_lt (by (with_reducible repeat (first | apply Kd.R_alloc | apply Kd.R_drewN | apply Kd.R_drew)); exact HO_4.out)) k_ hk⟩)); (case aO => exact (by (with_reducible repeat (first | apply Kd.R_alloc | apply Kd.R_drewN | apply Kd.R_drew)); exact HO683.out)); (case aS => exact (below_size (by repeat (first | (with_reducible first | exact HB.out | apply below_alloc | apply pw_below_drewN | apply below_drew1) | exact HB.out)))); (case aL => have := LMc42.out; omega); intro v685 w51 ho hb hg hat; rw [← Ny684.out] at ho; have n0_ := Aside0.mk (Kd.R_after (ok := (fun k_ => some k_ ≠ (.slice Ao13 x4_1.length co13 : Value).ownBlock)) (by (with_reducible repeat (first | apply Kd.R_alloc | apply Kd.R_drewN | apply Kd.R_drew)); exact HO_3.out) hg hat); have n1_ := Aside0.mk (Kd.R_after (ok := (fun k_ => some k_ ≠ (v642 : Value).ownBlock)) (by (with_reducible repeat (first | apply Kd.R_alloc | apply Kd.R_drewN | apply Kd.R_drew)); exact HO_4.out) hg hat); have n2_ := Aside0.mk (Kd.V_afterv (ok := (fun k_ => some k_ ≠ (v642 : Value).ownBlock)) (by (with_reducible repeat (first | apply Kd.V_alloc | apply Kd.V_drewN | apply Kd.V_drew)); exact HO680.out) hg hat); have n3_ := Aside0.mk (hb); have n4_ := Aside0.mk (ho); clear HO_3; clear HO_4; clear HO680; clear HB; clear HO683; have HO_3 := n0_; have HO_4 := n1_; have HO680 := n2_; have HB := n3_; have HO686 := n4_; clear n0_ n1_ n2_ n3_ n4_; clear ho hb hg hat; have q52 : (x6_2 : Int) ≤ ((x4_1.length : Int) : Int) := of_decide_eq_true (by first | (with_reducible assumption) | assumption); obtain ⟨i052, hi052, _, hsz52, _⟩ := info_parts info3; have hroom52 : x4_1.length ≤ co13 := (Kd.R_reads' HO_4.out).2.1; have hC52 : Kd.F (Kd.int .i64) _ _ Ao13 x4_1.length x4_1 := (Kd.V_at (base := w.heap.size) (Kd.R_V HO_4.out)).2.2; have q052 : (0 : Int) ≤ (x6_2 : Int) := of_decide_eq_true (by first | (with_reducible assumption) | assumption); have hcut52 := cut_from (P := Try.prog) 22 3 .i64 Try.underlying22 hi052 1 hsz52 Ao13 x4_1.length co13 x6_2 q052 q52; have hr52 := Kd.F_cut (m := (x6_2 : Int).toNat) (c := co13) hC52 (by omega) hroom52; obtain ⟨A52, hA52⟩ : ∃ A1, A1 = (if co13 = (x6_2 : Int).toNat then Ao13 else (Ao13 : Option Addr).map (·.add ((x6_2 : Int).toNat * 1))) := ⟨_, rfl⟩; obtain ⟨c52, hc52⟩ : ∃ c1, c1 = co13 - (x6_2 : Int).toNat := ⟨_, rfl⟩; have hy52 : y687.length = x4_1.length - (x6_2 : Int).toNat := (by rw [Ny687.out, List.length_drop] <;> omega); rw [show (x4_1).drop (x6_2 : Int).toNat = y687 from Ny687.out.symm] at hr52; replace hr52 : Kd.F (Kd.int .i64) _ _ A52 y687.length y687 := (by rw [hA52]; exact hr52); rw [← hy52, ← hA52, ← hc52] at hcut52; have HO691 := Aside0.mk (show Kd.V (Kd.int .i64) 3 _ w.heap.size _ (.slice A52 y687.length c52) y687 from Kd.V_mk (by rw [hy52, hc52]; exact Nat.sub_le_sub_right hroom52 _) hr52); have HC691 := Aside0.mk (show y687.length ≤ c52 from by rw [hy52, hc52]; exact Nat.sub_le_sub_right hroom52 _); clear hr52 hC52 hroom52 hi052 hsz52 hc52; have KY52 := Aside0.mk hy52; have KA52 := Aside0.mk hA52; clear hy52 hA52; replace q52 := eq_true q52) | ((with_reducible refine gate_builtin (b := .append) (xs := #[.tmp 65, .tmp 68]) rfl ?_); at_builtin; refine Kd.R_append_rows (Kd.int .i64) (w0 := w) w.heap.size rfl (.tmp 65) (.tmp 68) 22 3 (.int .i64 0) 8 rfl Try.underlying22 info3 rfl (by decide) (by omega) v685 y684 y687 _ _ _ (fun k_ => some k_ ≠ (v642 : Value).ownBlock ∧ some k_ ≠ (.slice Ao13 x4_1.length co13 : Value).ownBlock) (fun _ => False) rfl rfl ?aO ?aR (fun _ _ h => h) (fun _ h => h.elim) ?aF ?aB ?aS ?aL ?_; (case aR => repeat (first | exact (Kd.V_reads' HO691.out).2.2 | (with_reducible refine Kd.C_alloc ?_ _) | (with_reducible refine Kd.C_drewN ?_ _) | (with_reducible refine Kd.C_drew ?_))); (case aB => exact (by repeat (first | (with_reducible first | exact HB.out | apply below_alloc | apply pw_below_drewN | apply below_drew1) | exact HB.out))); (case aF => exact (fun k_ hk => ⟨Kd.fresh' (Kd.R_lt (by (with_reducible repeat (first | apply Kd.R_alloc | apply Kd.R_drewN | apply Kd.R_drew)); exact HO_3.out)) k_ hk, Kd.fresh' (Kd.R_lt (by (with_reducible repeat (first | apply Kd.R_alloc | apply Kd.R_drewN | apply Kd.R_drew)); exact HO_4.out)) k_ hk⟩)); (case aO => exact (by (with_reducible repeat (first | apply Kd.R_alloc | apply Kd.R_drewN | apply Kd.R_drew)); exact HO686.out)); (case aS => exact (below_size (by repeat (first | (with_reducible first | exact HB.out | apply below_alloc | apply pw_below_drewN | apply below_drew1) | exact HB.out)))); (case aL => have := LMc45.out; omega); intro v693 w53 ho hb hg hat; rw [← Ny692.out] at ho; have n0_ := Aside0.mk (Kd.R_after (ok := (fun k_ => some k_ ≠ (.slice Ao13 x4_1.length co13 : Value).ownBlock)) (by (with_reducible repeat (first | apply Kd.R_alloc | apply Kd.R_drewN | apply Kd.R_drew)); exact HO_3.out) hg hat); have n1_ := Aside0.mk (Kd.R_after (ok := (fun k_ => some k_ ≠ (v642 : Value).ownBlock)) (by (with_reducible repeat (first | apply Kd.R_alloc | apply Kd.R_drewN | apply Kd.R_drew)); exact HO_4.out) hg hat); have n2_ := Aside0.mk (Kd.V_afterv (ok := (fun k_ => some k_ ≠ (v642 : Value).ownBlock)) (by (with_reducible repeat (first | apply Kd.V_alloc | apply Kd.V_drewN | apply Kd.V_drew)); exact HO680.out) hg hat); have n3_ := Aside0.mk (Kd.V_afterv (ok := (fun k_ => some k_ ≠ (v642 : Value).ownBlock)) (by (with_reducible repeat (first | apply Kd.V_alloc | apply Kd.V_drewN | apply Kd.V_drew)); exact HO691.out) hg hat); have n4_ := Aside0.mk (hb); have n5_ := Aside0.mk (ho); clear HO_3; clear HO_4; clear HO680; clear HO691; clear HB; clear HO686; have HO_3 := n0_; have HO_4 := n1_; have HO680 := n2_; have HO691 := n3_; have HB := n4_; have HO694 := n5_; clear n0_ n1_ n2_ n3_ n4_ n5_; clear ho hb hg hat))
                 go_roundg k2
                 case measure => have := HK1.out; have := HK2.out; omega
                 case rel => exact ⟨(y692), (wrap64 (x5_1 + 1)), (by first | rfl | (simp; done) | (simp [*]; done)), H', ⟨by have := HK1.out; have := HK2.out; omega⟩, ⟨by (with_reducible repeat (first | apply Kd.R_alloc | apply Kd.R_drewN | apply Kd.R_drew)); exact Kd.R_mono HO_3.out (fun _ hk => hk.2)⟩, ⟨by (with_reducible repeat (first | apply Kd.R_alloc | apply Kd.R_drewN | apply Kd.R_drew)); exact Kd.R_mono HO694.out (fun _ hk => hk.1)⟩, ⟨by repeat (first | (with_reducible first | exact HB.out | apply below_alloc | apply pw_below_drewN | apply below_drew1) | exact HB.out)⟩⟩
                ·rw [if_neg c45] at H
                 exact absurd H (by simp)
               ·rw [if_neg c42] at H
                exact absurd H (by simp)
              ·rw [if_neg c41] at H
               exact absurd H (by simp)
             ·rw [if_neg c40] at H
              exact absurd H (by simp)
            ·rw [if_neg c39] at H
             exact absurd H (by simp)
       ·rw [if_neg c11] at H
        exact absurd H (by simp)
      ·rw [if_neg c10] at H
       have c10b0 : decide (x5_1 < (l0.length : Int)) = false := decide_eq_false c10
       clear c10
       by_cases c54 : (x4_1.length : Int) = 1
       ·rw [if_pos c54] at H
        have c54b0 : ((x4_1.length : Int) == 1) = true := beq_iff_eq.mpr c54
        have c54b1 : ((x4_1.length : Int) != 1) = false := bne_eq_false_iff_eq.mpr c54
        clear c54
        by_cases c55 : 0 < (x4_1.length : Int)
        ·rw [if_pos c55] at H
         have c55b0 : decide (0 < (x4_1.length : Int)) = true := decide_eq_true c55
         have c55b1 : decide (0 < x4_1.length) = true := decide_eq_true (by omega)
         clear c55
         by_cases c56 : 0 ≤ (rd x4_1 0)
         ·rw [if_pos c56] at H
          have c56b0 : decide (0 ≤ (rd x4_1 0)) = true := decide_eq_true c56
          clear c56
          by_cases c57 : (rd x4_1 0) < (y641.length : Int)
          ·rw [if_pos c57] at H
           have c57b0 : decide ((rd x4_1 0) < (y641.length : Int)) = true := decide_eq_true c57
           clear c57
           obtain ⟨y696, hy696⟩ : ∃ y_ : List Int, y_ = (y641.set ((rd x4_1 0) : Int).toNat 1) := ⟨_, rfl⟩
           replace H : (some y696) = some r := by first | (rw [hy696]; with_reducible exact H) | (have H2_ := (Option.bind_some _ _).symm.trans H; rw [hy696]; with_reducible exact H2_) | (have H2_ := (Option.bind_some _ _).symm.trans H; with_reducible exact H2_) | with_reducible exact H | (rw [hy696]; exact H) | exact H
           have Ny696 := Aside0.mk hy696
           clear hy696
           obtain rfl := Option.some.inj H
           obtain ⟨Ao59, co59, eo59⟩ := Kd.R_slice HO_4.out
           subst eo59
           have p695 : 0 ≤ (0 : Int) := (by omega)
           have q695 : 0 < (x4_1.length : Int) := of_decide_eq_true (by first | (with_reducible assumption) | assumption)
           obtain ⟨ad695, e695, hx695_0⟩ := Kd.at_int (Kd.R_reads' HO_4.out).2.2 0 p695 q695
           cases e695
           have qi695 : (0 < x4_1.length) = True := eq_true (by omega)
           (try rw [show ((0 : Int)).toNat = 0 from rfl] at hx695_0)
           (try rw [Addr.add_zero'] at hx695_0)
           replace p695 := eq_true p695
           replace q695 := eq_true q695
           have p58 : 0 ≤ ((rd x4_1 0) : Int) := of_decide_eq_true (by first | (with_reducible assumption) | assumption)
           have q58 : ((rd x4_1 0) : Int) < ((y641.length : Int) : Int) := of_decide_eq_true (by first | (with_reducible assumption) | assumption)
           obtain ⟨go58, co58, eo58, gb58, gl58, cl58, HG58⟩ := Kd.R_form HO_3.out (by omega)
           (first | cases eo58 | (injection eo58 with ea_ en_ ec_; (first | subst ea_ | (injection ea_ with ea_; subst ea_)); subst ec_; clear en_))
           have GB58 := Aside0.mk gb58
           have GG58 := Aside0.mk HG58
           clear gb58 gl58 HG58
           obtain ⟨hx58_0, hf58_0⟩ := Kd.R_celln 0 HO_3.out ((rd x4_1 0) : Int) p58 q58
           replace p58 := eq_true p58
           replace q58 := eq_true q58
           have HP60 := Kd.R_putg HO_3.out ((rd x4_1 0) : Int) 1
           go_wp2_with (first | ((with_reducible refine gate_store (t := 3) (p := 78) rfl ?_); refine store_event (t := 3) (p := 78) (v := ?vo_w61) (w1 := (wr.setCell ⟨go58, ((rd x4_1 0) : Int).toNat, none⟩ (.int .i64 1))) ?hg ?ho ?hn ?hr ?_; (case ho => rfl); (case hg => rfl); (case hn => rfl); (case hr => first | (go_simp; done) | (go_simp; rfl)); intro w61 hw; have hg : wr.grownBy w61 (some go58) := (by rw [hw]; exact HP60.2); have hp_ : Kd.R (Kd.int .i64) 3 w61 w.heap.size (fun k_ => some k_ ≠ (.slice (some ad695) x4_1.length co59 : Value).ownBlock) (.slice (some ⟨go58, 0, none⟩) y641.length co58) y696 := (by rw [hw, Ny696.out]; exact HP60.1); clear HP60; have n0_ := Aside0.mk (hp_); have n1_ := Aside0.mk (Kd.R_after (v := (.slice (some ⟨go58, 0, none⟩) y641.length co58)) (v1 := (.slice (some ⟨go58, 0, none⟩) y641.length co58)) (ok := (fun _ => True)) (by (with_reducible repeat (first | apply Kd.R_alloc | apply Kd.R_drewN | apply Kd.R_drew)); exact Kd.R_mono HO_4.out (fun _ hk => ⟨trivial, hk⟩)) hg (.inl rfl)); have n2_ := Aside0.mk ((by rw [hw]; exact below_set (HB.out) GB58.out : Below w.heap.size w w61)); clear HO_3; clear HO_4; clear HB; have HO_3 := n0_; have HO_4 := n1_; have HB := n2_; clear n0_ n1_ n2_; clear hg hw hp_))
           go_ret
           exact ⟨_, by first | rfl | (simp [errW_none, errW_some] <;> rfl) | (simp [*, errW_none, errW_some] <;> rfl), by (with_reducible repeat (first | apply Kd.R_alloc | apply Kd.R_drewN | apply Kd.R_drew)); exact Kd.R_mono HO_3.out (fun _ hk => trivial), by repeat (first | (with_reducible first | exact HB.out | apply below_alloc | apply pw_below_drewN | apply below_drew1) | exact HB.out)⟩
          ·rw [if_neg c57] at H
           exact absurd H (by simp)
         ·rw [if_neg c56] at H
          exact absurd H (by simp)
        ·rw [if_neg c55] at H
         exact absurd H (by simp)
       ·rw [if_neg c54] at H
        have c54b0 : ((x4_1.length : Int) == 1) = false := beq_eq_false_iff_ne.mpr c54
        have c54b1 : ((x4_1.length : Int) != 1) = true := bne_iff_ne.mpr c54
        obtain ⟨y697, hy697⟩ : ∃ y_ : List (S167), y_ = (([] : List (S167))) := ⟨_, rfl⟩
        replace H : (spec_BestLens.l2 k1 l0 y641 x4_1 (x4_1.length : Int) y697 0) = some r := by first | (rw [hy697]; with_reducible exact H) | (have H2_ := (Option.bind_some _ _).symm.trans H; rw [hy697]; with_reducible exact H2_) | (have H2_ := (Option.bind_some _ _).symm.trans H; with_reducible exact H2_) | with_reducible exact H | (rw [hy697]; exact H) | exact H
        have Ny697 := Aside0.mk hy697
        clear hy697
        have H' := Aside0.mk H
        clear H
        obtain ⟨Ao62, co62, eo62⟩ := Kd.R_slice HO_4.out
        subst eo62
        go_wp2_with (first | ((with_reducible refine gate_dst (N := 80) rfl ?_); refine Kd.N_lit k167 _ 167 ?hg (N' := 80) ?hd (xs := ([] : List (S167))) (inner := []) (ok := (fun k_ => some k_ ≠ (v642 : Value).ownBlock ∧ some k_ ≠ (.slice Ao62 x4_1.length co62 : Value).ownBlock)) (okp := (fun k_ => some k_ ≠ (v642 : Value).ownBlock ∧ some k_ ≠ (.slice Ao62 x4_1.length co62 : Value).ownBlock)) ?hr ?hp (fun _ hk => hk) ((show ∀ k_, wr.heap.size ≤ k_ → (fun k_ => some k_ ≠ (v642 : Value).ownBlock ∧ some k_ ≠ (.slice Ao62 x4_1.length co62 : Value).ownBlock) k_ from fun k_ hk => ⟨Kd.fresh' (Kd.R_lt (by (with_reducible repeat (first | apply Kd.R_alloc | apply Kd.R_drewN | apply Kd.R_drew)); exact HO_3.out)) k_ hk, Kd.fresh' (Kd.R_lt (by (with_reducible repeat (first | apply Kd.R_alloc | apply Kd.R_drewN | apply Kd.R_drew)); exact HO_4.out)) k_ hk⟩) _ (Nat.le_refl _)) (Below.refl _ _) (Nat.le_refl _) (by simp) ?_; (case hd => rfl); (case hg => rfl); (case hr => first | (go_simp; done) | (go_simp; rfl)); (case hp => exact (Reps.none _ _)); intro v698 w63 ho64 hb hg_ hnew_; clear hg_ hnew_; (first | rw [← Ny697.out] at ho64 | (simp only [Int.reduceToNat] at ho64; rw [← Ny697.out] at ho64)); have n0_ := Aside0.mk (Kd.R_below (by (with_reducible repeat (first | apply Kd.R_alloc | apply Kd.R_drewN | apply Kd.R_drew)); exact HO_3.out) hb); have n1_ := Aside0.mk (Kd.R_below (by (with_reducible repeat (first | apply Kd.R_alloc | apply Kd.R_drewN | apply Kd.R_drew)); exact HO_4.out) hb); have n2_ := Aside0.mk (Kd.N_lower ho64 (below_size (by repeat (first | (with_reducible first | exact HB.out | apply below_alloc | apply pw_below_drewN | apply below_drew1) | exact HB.out)))); have n3_ := Aside0.mk (below_step (by repeat (first | (with_reducible first | exact HB.out | apply below_alloc | apply pw_below_drewN | apply below_drew1) | exact HB.out)) hb); clear HO_3; clear HO_4; clear HB; have HO_3 := n0_; have HO_4 := n1_; have HO699 := n2_; have HB := n3_; clear n0_ n1_ n2_ n3_; clear hb ho64))
        go_loopg [9, 10] k1 (fun kq v9 v10 w' => ∃ (x3_2 : List Int) (x4_2 : List Int) (x9_2 : List (S167)) (x10_2 : Int), v10 = .int .i64 x10_2 ∧ Aside0 (spec_BestLens.l2 kq l0 x3_2 x4_2 (x4_1.length : Int) x9_2 x10_2 = some r) ∧ Aside0 (kq ≤ k1) ∧ Aside0 (Kd.R (Kd.int .i64) 3 w' w.heap.size (fun k_ => some k_ ≠ ((.slice Ao62 x4_1.length co62) : Value).ownBlock) v642 x3_2) ∧ Aside0 (Kd.R (Kd.int .i64) 3 w' w.heap.size (fun k_ => some k_ ≠ (v642 : Value).ownBlock) (.slice Ao62 x4_1.length co62) x4_2) ∧ Aside0 (Kd.N k167 167 w' w.heap.size (fun k_ => some k_ ≠ (v642 : Value).ownBlock ∧ some k_ ≠ ((.slice Ao62 x4_1.length co62) : Value).ownBlock) v9 x9_2) ∧ Aside0 (Below w.heap.size w w'))
        case atStart => exact ⟨(y641), (x4_1), (y697), (0), (by first | rfl | (simp; done) | (simp [*]; done)), H', ⟨Nat.le_refl _⟩, ⟨by (with_reducible repeat (first | apply Kd.R_alloc | apply Kd.R_drewN | apply Kd.R_drew)); exact HO_3.out⟩, ⟨by (with_reducible repeat (first | apply Kd.R_alloc | apply Kd.R_drewN | apply Kd.R_drew)); exact HO_4.out⟩, ⟨by (with_reducible repeat (first | apply Kd.N_alloc | apply Kd.N_drewN | apply Kd.N_drew)); exact HO699.out⟩, ⟨by repeat (first | (with_reducible first | exact HB.out | apply below_alloc | apply pw_below_drewN | apply below_drew1) | exact HB.out)⟩⟩
        case round =>
         clear H'
         try clear c1
         try clear c2
         try clear p2
         try clear c3
         try clear q3
         try clear c4
         try clear q4
         try clear c5
         try clear p5
         try clear q5
         try clear hx5
         try clear hf5
         try clear p6
         try clear q6
         try clear hx6
         try clear qi6
         try clear c10
         try clear c10b0
         try clear c11
         try clear c14
         try clear c14b0
         try clear c16
         try clear c17
         try clear c18
         try clear c19
         try clear c20
         try clear c21
         try clear c22
         try clear c22b0
         try clear c24
         try clear c24b0
         try clear c24b1
         try clear c25
         try clear c25b0
         try clear c25b1
         try clear c26
         try clear c27
         try clear c28
         try clear c28b0
         try clear c29
         try clear c29b0
         try clear c30
         try clear q34
         try clear c37
         try clear q37
         try clear c39
         try clear c39b0
         try clear c39b1
         try clear c40
         try clear c40b0
         try clear c40b1
         try clear c41
         try clear c42
         try clear c43
         try clear c43b0
         try clear c44
         try clear c44b0
         try clear c45
         try clear q49
         try clear c52
         try clear q52
         try clear c54
         try clear c54b0
         try clear c54b1
         try clear c55
         try clear c55b0
         try clear c55b1
         try clear c56
         try clear c56b0
         try clear c57
         try clear c57b0
         try clear p58
         try clear q58
         try clear hx58
         try clear hf58
         try clear p64
         try clear q64
         try clear hx64
         try clear hx58_0
         try clear hx648_0
         try clear hx649_0
         try clear hx650_0
         try clear hx695_0
         try clear p58
         try clear p648
         try clear p649
         try clear p650
         try clear p695
         try clear q037
         try clear q052
         try clear q34
         try clear q37
         try clear q49
         try clear q52
         try clear q58
         try clear q648
         try clear q649
         try clear q650
         try clear q695
         obtain ⟨x3_2, x4_2, x9_2, x10_2, rfl, HA, HK2, HO_3, HO_4, HO_9, HB⟩ := hrel
         have hl4_2 := (Kd.R_reads' HO_4.out).1
         rw [hl4_2] at HO_4
         (try simp only [hl4_2])
         (try simp only [hl4_2] at HO_3)
         (try simp only [hl4_2] at HO_9)
         cases gk with
         | zero => exact absurd HA.out (by simp [spec_BestLens.l2])
         | succ k2 =>
          have H := HA.out
          clear HA
          simp only [spec_BestLens.l2] at H
          by_cases c65 : x10_2 < (x4_1.length : Int)
          ·rw [if_pos c65] at H
           have c65b0 : decide (x10_2 < (x4_1.length : Int)) = true := decide_eq_true c65
           clear c65
           by_cases c66 : 0 ≤ (x4_1.length : Int)
           ·rw [if_pos c66] at H
            have c66b0 := eq_true c66
            have c66b1 : decide (0 ≤ (x4_1.length : Int)) = true := decide_eq_true c66
            clear c66
            by_cases c67 : ((x4_1.length : Int) : Int).toNat ≤ 35184372088832
            ·rw [if_pos c67] at H
             have c67b0 := eq_true c67
             have c67b1 : decide (((x4_1.length : Int) : Int).toNat ≤ 35184372088832) = true := decide_eq_true c67
             clear c67
             obtain ⟨y700, hy700⟩ : ∃ y_ : List Int, y_ = (List.replicate ((x4_1.length : Int) : Int).toNat 0) := ⟨_, rfl⟩
             replace H : (if 0 ≤ x10_2 then (if x10_2 < (y700.length : Int) then (if x10_2 < (x4_2.length : Int) then (if 0 ≤ (rd x4_2 x10_2) then (if (rd x4_2 x10_2) < (l0.length : Int) then (if x9_2.length < 4398046511104 then (spec_BestLens.l2 k2 l0 x3_2 x4_2 (x4_1.length : Int) (x9_2 ++ [(⟨rd l0 (rd x4_2 x10_2), (y700.set (x10_2 : Int).toNat 1)⟩ : S167)]) (wrap64 (x10_2 + 1))) else (none)) else (none)) else (none)) else (none)) else (none)) else (none)) = some r := by first | (rw [hy700]; with_reducible exact H) | (have H2_ := (Option.bind_some _ _).symm.trans H; rw [hy700]; with_reducible exact H2_) | (have H2_ := (Option.bind_some _ _).symm.trans H; with_reducible exact H2_) | with_reducible exact H | (rw [hy700]; exact H) | exact H
             have Ny700 := Aside0.mk hy700
             clear hy700
             by_cases c68 : 0 ≤ x10_2
             ·rw [if_pos c68] at H
              have c68b0 : decide (0 ≤ x10_2) = true := decide_eq_true c68
              clear c68
              by_cases c69 : x10_2 < (y700.length : Int)
              ·rw [if_pos c69] at H
               have c69b0 : decide (x10_2 < (y700.length : Int)) = true := decide_eq_true c69
               clear c69
               obtain ⟨y703, hy703⟩ : ∃ y_ : List Int, y_ = (y700.set (x10_2 : Int).toNat 1) := ⟨_, rfl⟩
               replace H : (if x10_2 < (x4_2.length : Int) then (if 0 ≤ (rd x4_2 x10_2) then (if (rd x4_2 x10_2) < (l0.length : Int) then (if x9_2.length < 4398046511104 then (spec_BestLens.l2 k2 l0 x3_2 x4_2 (x4_1.length : Int) (x9_2 ++ [(⟨rd l0 (rd x4_2 x10_2), y703⟩ : S167)]) (wrap64 (x10_2 + 1))) else (none)) else (none)) else (none)) else (none)) = some r := by first | (rw [hy703]; with_reducible exact H) | (have H2_ := (Option.bind_some _ _).symm.trans H; rw [hy703]; with_reducible exact H2_) | (have H2_ := (Option.bind_some _ _).symm.trans H; with_reducible exact H2_) | with_reducible exact H | (rw [hy703]; exact H) | exact H
               have Ny703 := Aside0.mk hy703
               clear hy703
               by_cases c71 : x10_2 < (x4_2.length : Int)
               ·rw [if_pos c71] at H
                have c71b0 : decide (x10_2 < (x4_2.length : Int)) = true := decide_eq_true c71
                clear c71
                by_cases c72 : 0 ≤ (rd x4_2 x10_2)
                ·rw [if_pos c72] at H
                 have c72b0 : decide (0 ≤ (rd x4_2 x10_2)) = true := decide_eq_true c72
                 clear c72
                 by_cases c73 : (rd x4_2 x10_2) < (l0.length : Int)
                 ·rw [if_pos c73] at H
                  have c73b0 : decide ((rd x4_2 x10_2) < (l0.length : Int)) = true := decide_eq_true c73
                  clear c73
                  by_cases c74 : x9_2.length < 4398046511104
                  ·rw [if_pos c74] at H
                   have LMc74 := Aside0.mk c74
                   clear c74
                   obtain ⟨y706, hy706⟩ : ∃ y_ : List (S167), y_ = (x9_2 ++ [(⟨rd l0 (rd x4_2 x10_2), y703⟩ : S167)]) := ⟨_, rfl⟩
                   replace H : (spec_BestLens.l2 k2 l0 x3_2 x4_2 (x4_1.length : Int) y706 (wrap64 (x10_2 + 1))) = some r := by first | (rw [hy706]; with_reducible exact H) | (have H2_ := (Option.bind_some _ _).symm.trans H; rw [hy706]; with_reducible exact H2_) | (have H2_ := (Option.bind_some _ _).symm.trans H; with_reducible exact H2_) | with_reducible exact H | (rw [hy706]; exact H) | exact H
                   have Ny706 := Aside0.mk hy706
                   clear hy706
                   have H' := Aside0.mk H
                   clear H
                   go_wp2_with (first | ((with_reducible refine gate_dst (N := 87) rfl ?_); refine Kd.R_make (Kd.int .i64) _ 3 rfl (N := 87) rfl 22 _ _ rfl (x4_2.length : Int) rfl rfl Try.underlying22 (.int .i64 0) 8 info3 rfl (by decide) (by omega) 0 (ok := fun _ => True) (okp := fun _ => True) rfl (fun _ hk => hk) trivial (by omega) (Nat.le_trans (Nat.mul_le_mul_right _ (show (x4_2.length : Int).toNat ≤ 35184372088832 by rw [← hl4_2]; exact (of_decide_eq_true (by first | (with_reducible assumption) | assumption)))) (by omega)) (Below.refl _ _) (Nat.le_refl _) ?_; intro v701 w75 ho76 hb hg_ hnew_; (try rw [← hl4_2] at ho76); clear hg_ hnew_; (first | rw [← Ny700.out] at ho76 | (simp only [Int.reduceToNat] at ho76; rw [← Ny700.out] at ho76)); have n0_ := Aside0.mk (Kd.R_elder' (by (with_reducible repeat (first | apply Kd.R_alloc | apply Kd.R_drewN | apply Kd.R_drew)); exact HO_3.out) (Kd.R_base ho76) hb); have n1_ := Aside0.mk (Kd.R_elder' (by (with_reducible repeat (first | apply Kd.R_alloc | apply Kd.R_drewN | apply Kd.R_drew)); exact HO_4.out) (Kd.R_base ho76) hb); have n2_ := Aside0.mk (Kd.N_elder' (by (with_reducible repeat (first | apply Kd.N_alloc | apply Kd.N_drewN | apply Kd.N_drew)); exact HO_9.out) (Kd.R_base ho76) hb); have n3_ := Aside0.mk (Kd.R_lower (Kd.R_new' (Kd.R_new' ho76 (Kd.R_lt (by (with_reducible repeat (first | apply Kd.R_alloc | apply Kd.R_drewN | apply Kd.R_drew)); exact HO_3.out))) (Kd.R_lt (by (with_reducible repeat (first | apply Kd.R_alloc | apply Kd.R_drewN | apply Kd.R_drew)); exact HO_4.out))) (below_size (by repeat (first | (with_reducible first | exact HB.out | apply below_alloc | apply pw_below_drewN | apply below_drew1) | exact HB.out)))); have n4_ := Aside0.mk (below_step (by repeat (first | (with_reducible first | exact HB.out | apply below_alloc | apply pw_below_drewN | apply below_drew1) | exact HB.out)) hb); clear HO_3; clear HO_4; clear HO_9; clear HB; have HO_3 := n0_; have HO_4 := n1_; have HO_9 := n2_; have HO702 := n3_; have HB := n4_; clear n0_ n1_ n2_ n3_ n4_; clear hb ho76; have p70 : 0 ≤ (x10_2 : Int) := of_decide_eq_true (by first | (with_reducible assumption) | assumption); have q70 : (x10_2 : Int) < ((y700.length : Int) : Int) := of_decide_eq_true (by first | (with_reducible assumption) | assumption); obtain ⟨go70, co70, eo70, gb70, gl70, cl70, HG70⟩ := Kd.R_form HO702.out (by omega); (first | cases eo70 | (injection eo70 with ea_ en_ ec_; (first | subst ea_ | (injection ea_ with ea_; subst ea_)); subst ec_; clear en_)); have GB70 := Aside0.mk gb70; have GG70 := Aside0.mk HG70; clear gb70 gl70 HG70; obtain ⟨hx70_0, hf70_0⟩ := Kd.R_celln 0 HO702.out (x10_2 : Int) p70 q70; replace p70 := eq_true p70; replace q70 := eq_true q70; have n_ := Aside0.mk (Kd.R_mono (ok' := (fun k_ => some k_ ≠ (v642 : Value).ownBlock ∧ some k_ ≠ (.slice Ao62 x4_2.length co62 : Value).ownBlock)) HO702.out (fun k_ hk => ⟨hk.1.2, hk.2⟩)); clear HO702; have HO702 := n_; clear n_; obtain ⟨hy77_, hz77_⟩ := Kd.R_celln 0 HO702.out (x10_2 : Int) (of_decide_eq_true (by first | (with_reducible assumption) | assumption)) (of_decide_eq_true (by first | (with_reducible assumption) | assumption)); have HP77 := Kd.R_putg HO702.out (x10_2 : Int) 1) | ((with_reducible refine gate_store (t := 3) (p := 90) rfl ?_); refine store_event (t := 3) (p := 90) (v := ?vo_w78) (w1 := (w75.setCell ⟨go70, (x10_2 : Int).toNat, none⟩ (.int .i64 1))) ?hg ?ho ?hn ?hr ?_; (case ho => rfl); (case hg => rfl); (case hn => rfl); (case hr => first | (go_simp; done) | (go_simp; rfl)); intro w78 hw; have hg : w75.grownBy w78 (some go70) := (by rw [hw]; exact HP77.2); have hp_ : Kd.R (Kd.int .i64) 3 w78 w.heap.size (fun k_ => some k_ ≠ (v642 : Value).ownBlock ∧ some k_ ≠ (.slice Ao62 x4_2.length co62 : Value).ownBlock) (.slice (some ⟨go70, 0, none⟩) y700.length co70) y703 := (by rw [hw, Ny703.out]; exact HP77.1); clear HP77; have n0_ := Aside0.mk (Kd.R_after (v := (.slice (some ⟨go70, 0, none⟩) y700.length co70)) (v1 := (.slice (some ⟨go70, 0, none⟩) y700.length co70)) (ok := (fun k_ => some k_ ≠ (.slice Ao62 x4_2.length co62 : Value).ownBlock)) (by (with_reducible repeat (first | apply Kd.R_alloc | apply Kd.R_drewN | apply Kd.R_drew)); exact HO_3.out) hg (.inl rfl)); have n1_ := Aside0.mk (Kd.R_after (v := (.slice (some ⟨go70, 0, none⟩) y700.length co70)) (v1 := (.slice (some ⟨go70, 0, none⟩) y700.length co70)) (ok := (fun k_ => some k_ ≠ (v642 : Value).ownBlock)) (by (with_reducible repeat (first | apply Kd.R_alloc | apply Kd.R_drewN | apply Kd.R_drew)); exact HO_4.out) hg (.inl rfl)); have n2_ := Aside0.mk (Kd.N_afterv (v := (.slice (some ⟨go70, 0, none⟩) y700.length co70)) (v1 := (.slice (some ⟨go70, 0, none⟩) y700.length co70)) (ok := (fun k_ => some k_ ≠ (v642 : Value).ownBlock ∧ some k_ ≠ (.slice Ao62 x4_2.length co62 : Value).ownBlock)) (by (with_reducible repeat (first | apply Kd.N_alloc | apply Kd.N_drewN | apply Kd.N_drew)); exact HO_9.out) hg (.inl rfl)); have n3_ := Aside0.mk (hp_); have n4_ := Aside0.mk ((by rw [hw]; exact below_set (HB.out) GB70.out : Below w.heap.size w w78)); clear HO_3; clear HO_4; clear HO_9; clear HO702; clear HB; have HO_3 := n0_; have HO_4 := n1_; have HO_9 := n2_; have HO702 := n3_; have HB := n4_; clear n0_ n1_ n2_ n3_ n4_; clear hg hw hp_; have p704 : 0 ≤ (x10_2 : Int) := of_decide_eq_true (by first | (with_reducible assumption) | assumption); have q704 : x10_2 < (x4_2.length : Int) := of_decide_eq_true (by first | (with_reducible assumption) | assumption); obtain ⟨ad704, e704, hx704_0⟩ := Kd.at_int (Kd.R_reads' HO_4.out).2.2 x10_2 p704 q704; cases e704; replace p704 := eq_true p704; replace q704 := eq_true q704; have p705 : 0 ≤ ((rd x4_2 x10_2) : Int) := of_decide_eq_true (by first | (with_reducible assumption) | assumption); have q705 : (rd x4_2 x10_2) < (l0.length : Int) := of_decide_eq_true (by first | (with_reducible assumption) | assumption); obtain ⟨ad705, e705, hx705_0⟩ := Kd.at_int HR0.out (rd x4_2 x10_2) p705 q705; cases e705; replace hx705_0 := (HB.out.cell (World.block_lt_of_cell? w _ hx705_0)).trans hx705_0; replace p705 := eq_true p705; replace q705 := eq_true q705) | ((with_reducible refine gate_builtin (b := .append) (xs := #[.tmp 91, .tmp 101]) rfl ?_); at_builtin; refine Kd.N_append k167 (w0 := w) w.heap.size rfl (.tmp 91) (.tmp 101) 165 167 (.agg #[(.int .i64 0), (.slice none 0 0)]) 32 rfl Try.underlying165 info167 rfl (by decide) (by omega) u9 x9_2 (⟨rd l0 (rd x4_2 x10_2), y703⟩ : S167) [.int .i64 (rd l0 (rd x4_2 x10_2)), .slice (some ⟨go70, 0, none⟩) y700.length co70] (fun k_ => some k_ ≠ (v642 : Value).ownBlock ∧ some k_ ≠ (.slice (some ad704) x4_2.length co62 : Value).ownBlock) (fun k_ => ((fun k_ => some k_ ≠ (v642 : Value).ownBlock ∧ some k_ ≠ (.slice (some ad704) x4_2.length co62 : Value).ownBlock)) k_ ∧ some k_ ≠ (u9 : Value).ownBlock) rfl rfl ?aP (fun _ hk => hk) ?aF ?aO ?aB ?aS ?aL ?_; (case aP => have hy_ := (Kd.R_reads' HO702.out).1; have HO702 := Aside0.mk HO702.out; rw [hy_] at HO702 ⊢; exact (k167_mkF _ _ (⟨rd l0 (rd x4_2 x10_2), y703⟩ : S167) (Kd.R_reads' (Kd.R_mono (ok' := (fun k_ => ((fun k_ => some k_ ≠ (v642 : Value).ownBlock ∧ some k_ ≠ (.slice (some ad704) x4_2.length co62 : Value).ownBlock)) k_ ∧ some k_ ≠ (u9 : Value).ownBlock)) (Kd.R_apart' (HO702.out) (Kd.N_typed HO_9.out) (by decide)) (fun k_ hk => ⟨⟨hk.1.1, hk.1.2⟩, hk.2⟩))).2.1 (Kd.R_F (Kd.R_mono (ok' := (fun k_ => ((fun k_ => some k_ ≠ (v642 : Value).ownBlock ∧ some k_ ≠ (.slice (some ad704) x4_2.length co62 : Value).ownBlock)) k_ ∧ some k_ ≠ (u9 : Value).ownBlock)) (Kd.R_apart' (HO702.out) (Kd.N_typed HO_9.out) (by decide)) (fun k_ hk => ⟨⟨hk.1.1, hk.1.2⟩, hk.2⟩))))); (case aB => exact (by repeat (first | (with_reducible first | exact HB.out | apply below_alloc | apply pw_below_drewN | apply below_drew1) | exact HB.out))); (case aF => exact (fun k_ hk => ⟨Kd.fresh' (Kd.R_lt (by (with_reducible repeat (first | apply Kd.R_alloc | apply Kd.R_drewN | apply Kd.R_drew)); exact HO_3.out)) k_ hk, Kd.fresh' (Kd.R_lt (by (with_reducible repeat (first | apply Kd.R_alloc | apply Kd.R_drewN | apply Kd.R_drew)); exact HO_4.out)) k_ hk⟩)); (case aO => exact (by (with_reducible repeat (first | apply Kd.N_alloc | apply Kd.N_drewN | apply Kd.N_drew)); exact Kd.N_mono HO_9.out (fun _ hk => ⟨hk.1.1, hk.1.2⟩))); (case aS => exact (below_size (by repeat (first | (with_reducible first | exact HB.out | apply below_alloc | apply pw_below_drewN | apply below_drew1) | exact HB.out)))); (case aL => have := LMc74.out; omega); intro v707 w79 ho hb hg hat; rw [← Ny706.out] at ho; have n0_ := Aside0.mk (Kd.R_over' (by (with_reducible repeat (first | apply Kd.R_alloc | apply Kd.R_drewN | apply Kd.R_drew)); exact HO_3.out) (Kd.N_typed (by (with_reducible repeat (first | apply Kd.N_alloc | apply Kd.N_drewN | apply Kd.N_drew)); exact HO_9.out)) (by decide) hg); have n1_ := Aside0.mk (Kd.R_over' (by (with_reducible repeat (first | apply Kd.R_alloc | apply Kd.R_drewN | apply Kd.R_drew)); exact HO_4.out) (Kd.N_typed (by (with_reducible repeat (first | apply Kd.N_alloc | apply Kd.N_drewN | apply Kd.N_drew)); exact HO_9.out)) (by decide) hg); have n2_ := Aside0.mk (hb); have n3_ := Aside0.mk (ho); clear HO_3; clear HO_4; clear HB; clear HO_9; clear HO702; have HO_3 := n0_; have HO_4 := n1_; have HB := n2_; have HO708 := n3_; clear n0_ n1_ n2_ n3_; clear ho hb hg hat))
                   (try simp only [← hl4_2])
                   go_roundg k2
                   case measure => have := HK1.out; have := HK2.out; omega
                   case rel => exact ⟨(x3_2), (x4_2), (y706), (wrap64 (x10_2 + 1)), (by first | rfl | (simp; done) | (simp [*]; done)), H', ⟨by have := HK1.out; have := HK2.out; omega⟩, ⟨by (try simp only [hl4_2]); (with_reducible repeat (first | apply Kd.R_alloc | apply Kd.R_drewN | apply Kd.R_drew)); exact Kd.R_mono HO_3.out (fun _ hk => hk.1)⟩, ⟨by (try simp only [hl4_2]); (with_reducible repeat (first | apply Kd.R_alloc | apply Kd.R_drewN | apply Kd.R_drew)); exact Kd.R_mono HO_4.out (fun _ hk => hk.1)⟩, ⟨by (try simp only [hl4_2]); (with_reducible repeat (first | apply Kd.N_alloc | apply Kd.N_drewN | apply Kd.N_drew)); exact HO708.out⟩, ⟨by repeat (first | (with_reducible first | exact HB.out | apply below_alloc | apply pw_below_drewN | apply below_drew1) | exact HB.out)⟩⟩
                  ·rw [if_neg c74] at H
                   exact absurd H (by simp)
                 ·rw [if_neg c73] at H
                  exact absurd H (by simp)
                ·rw [if_neg c72] at H
                 exact absurd H (by simp)
               ·rw [if_neg c71] at H
                exact absurd H (by simp)
              ·rw [if_neg c69] at H
               exact absurd H (by simp)
             ·rw [if_neg c68] at H
              exact absurd H (by simp)
            ·rw [if_neg c67] at H
             exact absurd H (by simp)
           ·rw [if_neg c66] at H
            exact absurd H (by simp)
          ·rw [if_neg c65] at H
           have c65b0 : decide (x10_2 < (x4_2.length : Int)) = false := by rw [← hl4_2]; exact decide_eq_false c65
           clear c65
           have H' := Aside0.mk H
           clear H
           go_wp2
           go_loopg [12, 13] k2 (fun kq v12 v13 w' => ∃ (x12_3 : List (S167)) (x13_3 : Int), v13 = .int .i64 x13_3 ∧ Aside0 (spec_BestLens.l3 kq x3_2 x4_2 (x4_1.length : Int) x9_2 x12_3 x13_3 = some r) ∧ Aside0 (kq ≤ k2) ∧ Aside0 (Kd.R (Kd.int .i64) 3 w' w.heap.size (fun k_ => some k_ ≠ ((.slice Ao62 x4_2.length co62) : Value).ownBlock) v642 x3_2) ∧ Aside0 (Kd.R (Kd.int .i64) 3 w' w.heap.size (fun k_ => some k_ ≠ (v642 : Value).ownBlock) (.slice Ao62 x4_2.length co62) x4_2) ∧ Aside0 (Kd.N k167 167 w' w.heap.size (fun k_ => some k_ ≠ (v642 : Value).ownBlock ∧ some k_ ≠ ((.slice Ao62 x4_2.length co62) : Value).ownBlock) u9 x9_2) ∧ Aside0 (Kd.N k167 167 w' w.heap.size (fun k_ => some k_ ≠ (v642 : Value).ownBlock ∧ some k_ ≠ ((.slice Ao62 x4_2.length co62) : Value).ownBlock) v12 x12_3) ∧ Aside0 (Below w.heap.size w w'))
           case atStart => exact ⟨(x9_2), (1), (by first | rfl | (simp; done) | (simp [*]; done)), H', ⟨Nat.le_refl _⟩, ⟨by (try simp only [hl4_2]); (with_reducible repeat (first | apply Kd.R_alloc | apply Kd.R_drewN | apply Kd.R_drew)); exact HO_3.out⟩, ⟨by (try simp only [hl4_2]); (with_reducible repeat (first | apply Kd.R_alloc | apply Kd.R_drewN | apply Kd.R_drew)); exact HO_4.out⟩, ⟨by (try simp only [hl4_2]); (with_reducible repeat (first | apply Kd.N_alloc | apply Kd.N_drewN | apply Kd.N_drew)); exact HO_9.out⟩, ⟨by (try simp only [hl4_2]); (with_reducible repeat (first | apply Kd.N_alloc | apply Kd.N_drewN | apply Kd.N_drew)); exact HO_9.out⟩, ⟨by repeat (first | (with_reducible first | exact HB.out | apply below_alloc | apply pw_below_drewN | apply below_drew1) | exact HB.out)⟩⟩
           case round =>
            clear H'
            try clear c1
            try clear c2
            try clear p2
            try clear c3
            try clear q3
            try clear c4
            try clear q4
            try clear c5
            try clear p5
            try clear q5
            try clear hx5
            try clear hf5
            try clear c6
            try clear p6
            try clear q6
            try clear hx6
            try clear qi6
            try clear c7
            try clear p7
            try clear q7
            try clear hx7
            try clear hf7
            try clear c10
            try clear c10b0
            try clear c11
            try clear c14
            try clear c14b0
            try clear c16
            try clear c17
            try clear c18
            try clear c19
            try clear c20
            try clear c21
            try clear c22
            try clear c22b0
            try clear c24
            try clear c24b0
            try clear c24b1
            try clear c25
            try clear c25b0
            try clear c25b1
            try clear c26
            try clear c27
            try clear c28
            try clear c28b0
            try clear c29
            try clear c29b0
            try clear c30
            try clear q34
            try clear c37
            try clear q37
            try clear c39
            try clear c39b0
            try clear c39b1
            try clear c40
            try clear c40b0
            try clear c40b1
            try clear c41
            try clear c42
            try clear c43
            try clear c43b0
            try clear c44
            try clear c44b0
            try clear c45
            try clear q49
            try clear c52
            try clear q52
            try clear c54
            try clear c54b0
            try clear c54b1
            try clear c55
            try clear c55b0
            try clear c55b1
            try clear c56
            try clear c56b0
            try clear c57
            try clear c57b0
            try clear p58
            try clear q58
            try clear hx58
            try clear hf58
            try clear p64
            try clear q64
            try clear hx64
            try clear c65
            try clear c65b0
            try clear p65
            try clear q65
            try clear hx65
            try clear c66
            try clear c66b0
            try clear c66b1
            try clear c67
            try clear c67b0
            try clear c67b1
            try clear c68
            try clear c68b0
            try clear c69
            try clear c69b0
            try clear p69
            try clear q69
            try clear hx69
            try clear qi69
            try clear p70
            try clear q70
            try clear hx70
            try clear hf70
            try clear c71
            try clear c71b0
            try clear c72
            try clear c72b0
            try clear c73
            try clear c73b0
            try clear c74
            try clear hx58_0
            try clear hx648_0
            try clear hx649_0
            try clear hx650_0
            try clear hx695_0
            try clear hx704_0
            try clear hx705_0
            try clear hx70_0
            try clear p2
            try clear p5
            try clear p58
            try clear p6
            try clear p64
            try clear p648
            try clear p649
            try clear p650
            try clear p695
            try clear p70
            try clear p704
            try clear p705
            try clear q037
            try clear q052
            try clear q3
            try clear q34
            try clear q37
            try clear q4
            try clear q49
            try clear q5
            try clear q52
            try clear q58
            try clear q6
            try clear q64
            try clear q648
            try clear q649
            try clear q650
            try clear q695
            try clear q70
            try clear q704
            try clear q705
            obtain ⟨x12_3, x13_3, rfl, HA, HK3, HO_3, HO_4, HO_9, HO_12, HB⟩ := hrel
            cases gk with
            | zero => exact absurd HA.out (by simp [spec_BestLens.l3])
            | succ k3 =>
             have H := HA.out
             clear HA
             simp only [spec_BestLens.l3] at H
             by_cases c80 : x13_3 < 16
             ·rw [if_pos c80] at H
              have c80b0 : decide (x13_3 < 16) = true := decide_eq_true c80
              clear c80
              replace H := Option.bind_eq_some_iff.mp H
              obtain ⟨t709, A810, H⟩ := H
              replace H : (spec_BestLens.l3 k3 x3_2 x4_2 (x4_1.length : Int) x9_2 t709 (wrap64 (x13_3 + 1))) = some r := H
              have A81 := Aside0.mk A810
              clear A810
              have H' := Aside0.mk H
              clear H
              obtain ⟨Ao82, co82, eo82⟩ := Kd.N_slice HO_9.out
              subst eo82
              obtain ⟨Ao83, co83, eo83⟩ := Kd.N_slice HO_12.out
              subst eo83
              go_wp2_with (first | ((with_reducible refine gate_callee (f := 174) rfl ?_); refine goesL_ (some 110) rfl rfl Try.func174 (by kernel_rfl) rfl #[.slice Ao82 x9_2.length co82, .slice Ao83 x12_3.length co83] rfl (by (try simp only [List.map_toArray, List.map_cons, List.map_nil]); first | done | rfl | (simp only [List.length_drop, List.length_take]; rfl)) ?_; (with_reducible refine (spec_l08Merge.calls k3 (fun k_ => (some k_ ≠ (v642 : Value).ownBlock ∧ some k_ ≠ (.slice Ao62 x4_2.length co62 : Value).ownBlock)) _ _ x9_2 _ _ x12_3 t709 _ ?side1 ?side2 ?side3 A81.out).mono ?_); (case side1 => exact Kd.N_V (HO_9.out)); (case side2 => repeat (first | exact (Kd.N_reads' HO_12.out).2.2 | (with_reducible refine Kd.C_alloc ?_ _) | (with_reducible refine Kd.C_drewN ?_ _) | (with_reducible refine Kd.C_drew ?_))); (case side3 => exact (Kd.N_reads' HO_12.out).2.1); rintro e w84 ⟨v710, rfl, ho0, hb⟩; refine ⟨_, rfl, ?_⟩; have n0_ := Aside0.mk (Kd.R_below (by (with_reducible repeat (first | apply Kd.R_alloc | apply Kd.R_drewN | apply Kd.R_drew)); exact HO_3.out) hb); have n1_ := Aside0.mk (Kd.R_below (by (with_reducible repeat (first | apply Kd.R_alloc | apply Kd.R_drewN | apply Kd.R_drew)); exact HO_4.out) hb); have n2_ := Aside0.mk (Kd.N_elder' (by (with_reducible repeat (first | apply Kd.N_alloc | apply Kd.N_drewN | apply Kd.N_drew)); exact HO_9.out) (Kd.N_base ho0) hb); have n3_ := Aside0.mk (Kd.N_elder' (by (with_reducible repeat (first | apply Kd.N_alloc | apply Kd.N_drewN | apply Kd.N_drew)); exact HO_12.out) (Kd.N_base ho0) hb); have n4_ := Aside0.mk (Kd.N_lower (Kd.N_mono (ok' := fun k_ => some k_ ≠ (v642 : Value).ownBlock ∧ some k_ ≠ (.slice Ao62 x4_2.length co62 : Value).ownBlock) ho0 (fun k_ hk_ => ⟨Or.elim hk_ (fun hs_ => hs_.1) (fun hn_ => (Kd.fresh' (Kd.R_lt (by (with_reducible repeat (first | apply Kd.R_alloc | apply Kd.R_drewN | apply Kd.R_drew)); exact HO_3.out)) k_ hn_)), Or.elim hk_ (fun hs_ => hs_.2) (fun hn_ => (Kd.fresh' (Kd.R_lt (by (with_reducible repeat (first | apply Kd.R_alloc | apply Kd.R_drewN | apply Kd.R_drew)); exact HO_4.out)) k_ hn_))⟩)) (below_size (by repeat (first | (with_reducible first | exact HB.out | apply below_alloc | apply pw_below_drewN | apply below_drew1) | exact HB.out)))); have n5_ := Aside0.mk (below_step (by repeat (first | (with_reducible first | exact HB.out | apply below_alloc | apply pw_below_drewN | apply below_drew1) | exact HB.out)) hb); clear HO_3; clear HO_4; clear HO_9; clear HO_12; clear HB; have HO_3 := n0_; have HO_4 := n1_; have HO_9 := n2_; have HO_12 := n3_; have HO711 := n4_; have HB := n5_; clear n0_ n1_ n2_ n3_ n4_ n5_; (try clear hb); (try clear hb2); (try clear hk); (try clear hi); (try clear ho0)))
              go_roundg k3
              case measure => have := HK1.out; have := HK2.out; have := HK3.out; omega
              case rel => exact ⟨(t709), (wrap64 (x13_3 + 1)), (by first | rfl | (simp; done) | (simp [*]; done)), H', ⟨by have := HK1.out; have := HK2.out; have := HK3.out; omega⟩, ⟨by (try simp only [hl4_2]); (with_reducible repeat (first | apply Kd.R_alloc | apply Kd.R_drewN | apply Kd.R_drew)); exact HO_3.out⟩, ⟨by (try simp only [hl4_2]); (with_reducible repeat (first | apply Kd.R_alloc | apply Kd.R_drewN | apply Kd.R_drew)); exact HO_4.out⟩, ⟨by (try simp only [hl4_2]); (with_reducible repeat (first | apply Kd.N_alloc | apply Kd.N_drewN | apply Kd.N_drew)); first | exact Kd.N_mono HO_9.out (fun _ hk => hk.1) | exact Kd.N_mono HO_9.out (fun _ hk => ⟨hk.1.1, ⟨hk.1.2, hk.2⟩⟩)⟩, ⟨by (try simp only [hl4_2]); (with_reducible repeat (first | apply Kd.N_alloc | apply Kd.N_drewN | apply Kd.N_drew)); exact HO711.out⟩, ⟨by repeat (first | (with_reducible first | exact HB.out | apply below_alloc | apply pw_below_drewN | apply below_drew1) | exact HB.out)⟩⟩
             ·rw [if_neg c80] at H
              have c80b0 : decide (x13_3 < 16) = false := decide_eq_false c80
              clear c80
              have H' := Aside0.mk H
              clear H
              go_wp2
              go_loopg [14] k3 (fun kq v14 w' => ∃ (x3_4 : List Int) (x14_4 : Int), v14 = .int .i64 x14_4 ∧ Aside0 (spec_BestLens.l4 kq x3_4 x4_2 (x4_1.length : Int) x12_3 x14_4 = some r) ∧ Aside0 (kq ≤ k3) ∧ Aside0 (Kd.R (Kd.int .i64) 3 w' w.heap.size (fun k_ => some k_ ≠ ((.slice Ao62 x4_2.length co62) : Value).ownBlock) v642 x3_4) ∧ Aside0 (Kd.R (Kd.int .i64) 3 w' w.heap.size (fun k_ => some k_ ≠ (v642 : Value).ownBlock) (.slice Ao62 x4_2.length co62) x4_2) ∧ Aside0 (Kd.N k167 167 w' w.heap.size (fun k_ => some k_ ≠ (v642 : Value).ownBlock ∧ some k_ ≠ ((.slice Ao62 x4_2.length co62) : Value).ownBlock) u12 x12_3) ∧ Aside0 (Below w.heap.size w w'))
              case atStart => exact ⟨(x3_2), (0), (by first | rfl | (simp; done) | (simp [*]; done)), H', ⟨Nat.le_refl _⟩, ⟨by (try simp only [hl4_2]); (with_reducible repeat (first | apply Kd.R_alloc | apply Kd.R_drewN | apply Kd.R_drew)); exact HO_3.out⟩, ⟨by (try simp only [hl4_2]); (with_reducible repeat (first | apply Kd.R_alloc | apply Kd.R_drewN | apply Kd.R_drew)); exact HO_4.out⟩, ⟨by (try simp only [hl4_2]); (with_reducible repeat (first | apply Kd.N_alloc | apply Kd.N_drewN | apply Kd.N_drew)); exact HO_12.out⟩, ⟨by repeat (first | (with_reducible first | exact HB.out | apply below_alloc | apply pw_below_drewN | apply below_drew1) | exact HB.out)⟩⟩
              case round =>
               clear H'
               try clear c1
               try clear c2
               try clear p2
               try clear c3
               try clear q3
               try clear c4
               try clear q4
               try clear c5
               try clear p5
               try clear q5
               try clear hx5
               try clear hf5
               try clear c6
               try clear p6
               try clear q6
               try clear hx6
               try clear qi6
               try clear c7
               try clear p7
               try clear q7
               try clear hx7
               try clear hf7
               try clear c8
               try clear c10
               try clear c10b0
               try clear c11
               try clear c14
               try clear c14b0
               try clear c16
               try clear c17
               try clear c18
               try clear c19
               try clear c20
               try clear c21
               try clear c22
               try clear c22b0
               try clear c24
               try clear c24b0
               try clear c24b1
               try clear c25
               try clear c25b0
               try clear c25b1
               try clear c26
               try clear c27
               try clear c28
               try clear c28b0
               try clear c29
               try clear c29b0
               try clear c30
               try clear q34
               try clear c37
               try clear q37
               try clear c39
               try clear c39b0
               try clear c39b1
               try clear c40
               try clear c40b0
               try clear c40b1
               try clear c41
               try clear c42
               try clear c43
               try clear c43b0
               try clear c44
               try clear c44b0
               try clear c45
               try clear q49
               try clear c52
               try clear q52
               try clear c54
               try clear c54b0
               try clear c54b1
               try clear c55
               try clear c55b0
               try clear c55b1
               try clear c56
               try clear c56b0
               try clear c57
               try clear c57b0
               try clear p58
               try clear q58
               try clear hx58
               try clear hf58
               try clear p64
               try clear q64
               try clear hx64
               try clear c65
               try clear c65b0
               try clear p65
               try clear q65
               try clear hx65
               try clear c66
               try clear c66b0
               try clear c66b1
               try clear c67
               try clear c67b0
               try clear c67b1
               try clear c68
               try clear c68b0
               try clear c69
               try clear c69b0
               try clear p69
               try clear q69
               try clear hx69
               try clear qi69
               try clear p70
               try clear q70
               try clear hx70
               try clear hf70
               try clear c71
               try clear c71b0
               try clear c72
               try clear c72b0
               try clear c73
               try clear c73b0
               try clear c74
               try clear c80
               try clear c80b0
               try clear hx58_0
               try clear hx648_0
               try clear hx649_0
               try clear hx650_0
               try clear hx695_0
               try clear hx704_0
               try clear hx705_0
               try clear hx70_0
               try clear p2
               try clear p5
               try clear p58
               try clear p6
               try clear p64
               try clear p648
               try clear p649
               try clear p65
               try clear p650
               try clear p69
               try clear p695
               try clear p7
               try clear p70
               try clear p704
               try clear p705
               try clear q037
               try clear q052
               try clear q3
               try clear q34
               try clear q37
               try clear q4
               try clear q49
               try clear q5
               try clear q52
               try clear q58
               try clear q6
               try clear q64
               try clear q648
               try clear q649
               try clear q65
               try clear q650
               try clear q69
               try clear q695
               try clear q7
               try clear q70
               try clear q704
               try clear q705
               obtain ⟨x3_4, x14_4, rfl, HA, HK4, HO_3, HO_4, HO_12, HB⟩ := hrel
               cases gk with
               | zero => exact absurd HA.out (by simp [spec_BestLens.l4])
               | succ k4 =>
                have H := HA.out
                clear HA
                simp only [spec_BestLens.l4] at H
                by_cases c85 : x14_4 < (wrap64 ((wrap64 (2 * (x4_1.length : Int))) - 2))
                ·rw [if_pos c85] at H
                 have c85b0 : decide (x14_4 < (wrap64 ((wrap64 (2 * (x4_2.length : Int))) - 2))) = true := by rw [← hl4_2]; exact decide_eq_true c85
                 clear c85
                 have H' := Aside0.mk H
                 clear H
                 go_wp2
                 go_loopg [15] k4 (fun kq v15 w' => ∃ (x3_5 : List Int) (x15_5 : Int), v15 = .int .i64 x15_5 ∧ Aside0 (spec_BestLens.l5 kq x3_5 x4_2 (x4_1.length : Int) x12_3 x14_4 x15_5 = some r) ∧ Aside0 (kq ≤ k4) ∧ Aside0 (Kd.R (Kd.int .i64) 3 w' w.heap.size (fun k_ => some k_ ≠ ((.slice Ao62 x4_2.length co62) : Value).ownBlock) v642 x3_5) ∧ Aside0 (Kd.R (Kd.int .i64) 3 w' w.heap.size (fun k_ => some k_ ≠ (v642 : Value).ownBlock) (.slice Ao62 x4_2.length co62) x4_2) ∧ Aside0 (Kd.N k167 167 w' w.heap.size (fun k_ => some k_ ≠ (v642 : Value).ownBlock ∧ some k_ ≠ ((.slice Ao62 x4_2.length co62) : Value).ownBlock) u12 x12_3) ∧ Aside0 (Below w.heap.size w w'))
                 case atStart => exact ⟨(x3_4), (0), (by first | rfl | (simp; done) | (simp [*]; done)), H', ⟨Nat.le_refl _⟩, ⟨by (try simp only [hl4_2]); (with_reducible repeat (first | apply Kd.R_alloc | apply Kd.R_drewN | apply Kd.R_drew)); exact HO_3.out⟩, ⟨by (try simp only [hl4_2]); (with_reducible repeat (first | apply Kd.R_alloc | apply Kd.R_drewN | apply Kd.R_drew)); exact HO_4.out⟩, ⟨by (try simp only [hl4_2]); (with_reducible repeat (first | apply Kd.N_alloc | apply Kd.N_drewN | apply Kd.N_drew)); exact HO_12.out⟩, ⟨by repeat (first | (with_reducible first | exact HB.out | apply below_alloc | apply pw_below_drewN | apply below_drew1) | exact HB.out)⟩⟩
                 case round =>
                  clear H'
                  try clear c1
                  try clear c2
                  try clear p2
                  try clear c3
                  try clear q3
                  try clear c4
                  try clear q4
                  try clear c5
                  try clear p5
                  try clear q5
                  try clear hx5
                  try clear hf5
                  try clear c6
                  try clear p6
                  try clear q6
                  try clear hx6
                  try clear qi6
                  try clear c7
                  try clear p7
                  try clear q7
                  try clear hx7
                  try clear hf7
                  try clear c8
                  try clear c10
                  try clear c10b0
                  try clear c11
                  try clear c14
                  try clear c14b0
                  try clear c16
                  try clear c17
                  try clear c18
                  try clear c19
                  try clear c20
                  try clear c21
                  try clear c22
                  try clear c22b0
                  try clear c24
                  try clear c24b0
                  try clear c24b1
                  try clear c25
                  try clear c25b0
                  try clear c25b1
                  try clear c26
                  try clear c27
                  try clear c28
                  try clear c28b0
                  try clear c29
                  try clear c29b0
                  try clear c30
                  try clear q34
                  try clear c37
                  try clear q37
                  try clear c39
                  try clear c39b0
                  try clear c39b1
                  try clear c40
                  try clear c40b0
                  try clear c40b1
                  try clear c41
                  try clear c42
                  try clear c43
                  try clear c43b0
                  try clear c44
                  try clear c44b0
                  try clear c45
                  try clear q49
                  try clear c52
                  try clear q52
                  try clear c54
                  try clear c54b0
                  try clear c54b1
                  try clear c55
                  try clear c55b0
                  try clear c55b1
                  try clear c56
                  try clear c56b0
                  try clear c57
                  try clear c57b0
                  try clear p58
                  try clear q58
                  try clear hx58
                  try clear hf58
                  try clear p64
                  try clear q64
                  try clear hx64
                  try clear c65
                  try clear c65b0
                  try clear p65
                  try clear q65
                  try clear hx65
                  try clear c66
                  try clear c66b0
                  try clear c66b1
                  try clear c67
                  try clear c67b0
                  try clear c67b1
                  try clear c68
                  try clear c68b0
                  try clear c69
                  try clear c69b0
                  try clear p69
                  try clear q69
                  try clear hx69
                  try clear qi69
                  try clear p70
                  try clear q70
                  try clear hx70
                  try clear hf70
                  try clear c71
                  try clear c71b0
                  try clear c72
                  try clear c72b0
                  try clear c73
                  try clear c73b0
                  try clear c74
                  try clear c80
                  try clear c80b0
                  try clear c85
                  try clear c85b0
                  try clear hx58_0
                  try clear hx648_0
                  try clear hx649_0
                  try clear hx650_0
                  try clear hx695_0
                  try clear hx704_0
                  try clear hx705_0
                  try clear hx70_0
                  try clear p2
                  try clear p5
                  try clear p58
                  try clear p6
                  try clear p64
                  try clear p648
                  try clear p649
                  try clear p65
                  try clear p650
                  try clear p69
                  try clear p695
                  try clear p7
                  try clear p70
                  try clear p704
                  try clear p705
                  try clear q037
                  try clear q052
                  try clear q3
                  try clear q34
                  try clear q37
                  try clear q4
                  try clear q49
                  try clear q5
                  try clear q52
                  try clear q58
                  try clear q6
                  try clear q64
                  try clear q648
                  try clear q649
                  try clear q65
                  try clear q650
                  try clear q69
                  try clear q695
                  try clear q7
                  try clear q70
                  try clear q704
                  try clear q705
                  obtain ⟨x3_5, x15_5, rfl, HA, HK5, HO_3, HO_4, HO_12, HB⟩ := hrel
                  cases gk with
                  | zero => exact absurd HA.out (by simp [spec_BestLens.l5])
                  | succ k5 =>
                   have H := HA.out
                   clear HA
                   simp only [spec_BestLens.l5] at H
                   by_cases c86 : x15_5 < (x4_1.length : Int)
                   ·rw [if_pos c86] at H
                    have c86b0 : decide (x15_5 < (x4_1.length : Int)) = true := decide_eq_true c86
                    clear c86
                    by_cases c87 : 0 ≤ x15_5
                    ·rw [if_pos c87] at H
                     have c87b0 : decide (0 ≤ x15_5) = true := decide_eq_true c87
                     clear c87
                     by_cases c88 : x15_5 < (x4_2.length : Int)
                     ·rw [if_pos c88] at H
                      have c88b0 : decide (x15_5 < (x4_2.length : Int)) = true := decide_eq_true c88
                      clear c88
                      by_cases c89 : 0 ≤ (rd x4_2 x15_5)
                      ·rw [if_pos c89] at H
                       have c89b0 : decide (0 ≤ (rd x4_2 x15_5)) = true := decide_eq_true c89
                       clear c89
                       by_cases c90 : (rd x4_2 x15_5) < (x3_5.length : Int)
                       ·rw [if_pos c90] at H
                        have c90b0 : decide ((rd x4_2 x15_5) < (x3_5.length : Int)) = true := decide_eq_true c90
                        clear c90
                        by_cases c91 : 0 ≤ x14_4
                        ·rw [if_pos c91] at H
                         have c91b0 : decide (0 ≤ x14_4) = true := decide_eq_true c91
                         clear c91
                         by_cases c92 : x14_4 < (x12_3.length : Int)
                         ·rw [if_pos c92] at H
                          have c92b0 : decide (x14_4 < (x12_3.length : Int)) = true := decide_eq_true c92
                          clear c92
                          by_cases c93 : x15_5 < (((rd_T167 x12_3 x14_4).f1).length : Int)
                          ·rw [if_pos c93] at H
                           have c93b0 : decide (x15_5 < (((rd_T167 x12_3 x14_4).f1).length : Int)) = true := decide_eq_true c93
                           clear c93
                           obtain ⟨y717, hy717⟩ : ∃ y_ : List Int, y_ = (x3_5.set ((rd x4_2 x15_5) : Int).toNat (wrap64 ((rd x3_5 (rd x4_2 x15_5)) + (rd ((rd_T167 x12_3 x14_4).f1) x15_5)))) := ⟨_, rfl⟩
                           replace H : (spec_BestLens.l5 k5 y717 x4_2 (x4_1.length : Int) x12_3 x14_4 (wrap64 (x15_5 + 1))) = some r := by first | (rw [hy717]; with_reducible exact H) | (have H2_ := (Option.bind_some _ _).symm.trans H; rw [hy717]; with_reducible exact H2_) | (have H2_ := (Option.bind_some _ _).symm.trans H; with_reducible exact H2_) | with_reducible exact H | (rw [hy717]; exact H) | exact H
                           have Ny717 := Aside0.mk hy717
                           clear hy717
                           have H' := Aside0.mk H
                           clear H
                           try go_wp2
                           have n0_ := Aside0.mk (Kd.R_drew HO_3.out)
                           have n1_ := Aside0.mk (Kd.R_drew HO_4.out)
                           have n2_ := Aside0.mk (Kd.N_drew HO_12.out)
                           have n3_ := Aside0.mk (below_drew1 HB.out)
                           clear HO_3
                           clear HO_4
                           clear HO_12
                           clear HB
                           have HO_3 := n0_
                           have HO_4 := n1_
                           have HO_12 := n2_
                           have HB := n3_
                           clear n0_ n1_ n2_ n3_
                           have p712 : 0 ≤ (x15_5 : Int) := of_decide_eq_true (by first | (with_reducible assumption) | assumption)
                           have q712 : x15_5 < (x4_2.length : Int) := of_decide_eq_true (by first | (with_reducible assumption) | assumption)
                           obtain ⟨ad712, e712, hx712_0⟩ := Kd.at_int (Kd.R_reads' HO_4.out).2.2 x15_5 p712 q712
                           cases e712
                           replace p712 := eq_true p712
                           replace q712 := eq_true q712
                           have p713 : 0 ≤ (x15_5 : Int) := of_decide_eq_true (by first | (with_reducible assumption) | assumption)
                           have q713 : x15_5 < (x4_2.length : Int) := of_decide_eq_true (by first | (with_reducible assumption) | assumption)
                           obtain ⟨ad713, e713, hx713_0⟩ := Kd.at_int (Kd.R_reads' HO_4.out).2.2 x15_5 p713 q713
                           obtain rfl : ad712 = ad713 := (by injection e713)
                           replace p713 := eq_true p713
                           replace q713 := eq_true q713
                           obtain ⟨Ao96, co96, eo96⟩ := Kd.R_slice HO_3.out
                           (first | subst eo96 | (injection eo96 with f1_ f2_ f3_; have f4_ := f1_.symm; have f5_ := f3_.symm; clear f1_ f2_ f3_; subst f4_; subst f5_))
                           have p714 : 0 ≤ ((rd x4_2 x15_5) : Int) := of_decide_eq_true (by first | (with_reducible assumption) | assumption)
                           have q714 : (rd x4_2 x15_5) < (x3_5.length : Int) := of_decide_eq_true (by first | (with_reducible assumption) | assumption)
                           obtain ⟨ad714, e714, hx714_0⟩ := Kd.at_int (Kd.R_reads' HO_3.out).2.2 (rd x4_2 x15_5) p714 q714
                           cases e714
                           replace p714 := eq_true p714
                           replace q714 := eq_true q714
                           obtain ⟨Ao97, co97, eo97⟩ := Kd.N_slice HO_12.out
                           (first | subst eo97 | (injection eo97 with f1_ f2_ f3_; have f4_ := f1_.symm; have f5_ := f3_.symm; clear f1_ f2_ f3_; subst f4_; subst f5_))
                           have p715 : 0 ≤ (x14_4 : Int) := of_decide_eq_true (by first | (with_reducible assumption) | assumption)
                           have q715 : x14_4 < (x12_3.length : Int) := of_decide_eq_true (by first | (with_reducible assumption) | assumption)
                           obtain ⟨ad715, A715_1, c715_1, e715, hx715_0, hx715_1, hl715_1, hi715_1⟩ := at_T167 (Kd.N_reads' HO_12.out).2.2 x14_4 p715 q715
                           cases e715
                           obtain ⟨ce715, hce715, hMe715, hcc715⟩ := Kd.N_get HO_12.out z167 x14_4 p715 (by first | exact q715 | exact of_decide_eq_true (by first | (with_reducible assumption) | assumption) | (have e_ := (Kd.N_reads' HO_12.out).1; omega))
                           obtain ⟨ua715_1, uc715_1, rfl, ul715_1, ge715_1⟩ := k167_openF hMe715
                           have hv715_1 := hcc715 1 _ rfl
                           rw [add_field _ _ 1 (by omega)] at hv715_1
                           replace hv715_1 := Option.some.inj (hv715_1.symm.trans hx715_1)
                           injection hv715_1 with hva_ hvn_ hvc_
                           rw [hva_] at ge715_1
                           rw [hvc_] at ul715_1
                           have HL715_1 := Aside0.mk (show Kd.V (Kd.int .i64) 3 _ w.heap.size _ _ ((rd_T167 x12_3 x14_4).f1) from Kd.V_mk ul715_1 ge715_1)
                           clear hva_ hvn_ hvc_ ge715_1 ul715_1
                           clear hcc715 hce715
                           have HR715_1 := Aside0.mk hi715_1
                           have HC715_1 := Aside0.mk hl715_1
                           clear hi715_1 hl715_1
                           replace p715 := eq_true p715
                           replace q715 := eq_true q715
                           have p716 : 0 ≤ (x15_5 : Int) := of_decide_eq_true (by first | (with_reducible assumption) | assumption)
                           have q716 : x15_5 < (((rd_T167 x12_3 x14_4).f1).length : Int) := of_decide_eq_true (by first | (with_reducible assumption) | assumption)
                           obtain ⟨ad716, e716, hx716_0⟩ := Kd.at_int (by repeat (first | (with_reducible exact HR715_1.out) | (with_reducible refine Kd.C_alloc ?_ _) | (with_reducible refine Kd.C_drewN ?_ _) | (with_reducible refine Kd.C_drew ?_) | exact HR715_1.out)) x15_5 p716 q716
                           cases e716
                           replace p716 := eq_true p716
                           replace q716 := eq_true q716
                           have p94 : 0 ≤ ((rd x4_2 x15_5) : Int) := of_decide_eq_true (by first | (with_reducible assumption) | assumption)
                           have q94 : ((rd x4_2 x15_5) : Int) < ((x3_5.length : Int) : Int) := of_decide_eq_true (by first | (with_reducible assumption) | assumption)
                           obtain ⟨go94, co94, eo94, gb94, gl94, cl94, HG94⟩ := Kd.R_form HO_3.out (by omega)
                           (first | cases eo94 | (injection eo94 with ea_ en_ ec_; (first | subst ea_ | (injection ea_ with ea_; subst ea_)); subst ec_; clear en_))
                           have GB94 := Aside0.mk gb94
                           have GG94 := Aside0.mk HG94
                           clear gb94 gl94 HG94
                           (first | simp only [add_plain] at hx714_0 | skip)
                           obtain ⟨hx94_0, hf94_0⟩ := Kd.R_celln 0 HO_3.out ((rd x4_2 x15_5) : Int) p94 q94
                           replace p94 := eq_true p94
                           replace q94 := eq_true q94
                           have HP98 := Kd.R_putn HO_3.out ((rd x4_2 x15_5) : Int) (wrap64 ((rd x3_5 (rd x4_2 x15_5)) + (rd ((rd_T167 x12_3 x14_4).f1) x15_5)))
                           rw [← Ny717.out] at HP98
                           have HQ98 := Aside0.mk HP98
                           clear HP98
                           refine start_ (n := 23) (S := fun w' => w'.cell? (ad712.add (x15_5).toNat) = some (.int .i64 (rd x4_2 x15_5)) ∧ w'.cell? (ad712.add (x15_5).toNat) = some (.int .i64 (rd x4_2 x15_5)) ∧ w'.cell? ⟨go94, ((rd x4_2 x15_5)).toNat, none⟩ = some (.int .i64 (rd x3_5 (rd x4_2 x15_5))) ∧ w'.cell? (ad715.add ((x14_4).toNat * 2)) = some (.int .i64 ((rd_T167 x12_3 x14_4).f0)) ∧ w'.cell? ⟨(ad715.add ((x14_4).toNat * 2)).block, (ad715.add ((x14_4).toNat * 2)).off + 1, none⟩ = some (.slice (some ad716) ((rd_T167 x12_3 x14_4).f1).length c715_1) ∧ w'.cell? (ad716.add (x15_5).toNat) = some (.int .i64 (rd ((rd_T167 x12_3 x14_4).f1) x15_5))) (ds := [22]) #[false, false, false, false, false, false, false, false, false, false, false, false, false, false, false, false, false, false, false, false, false, false, false] (by kernel_rfl) rfl rfl ⟨hx712_0, hx713_0, hx714_0, hx715_0, hx715_1, hx716_0⟩ (fun hHeld => ?_); refine with_tabW spec_BestLens.tab37 spec_BestLens.bits37 (fun HT_ HW_ => ?_)
                           generalize wr.drew = w95 at HO_3 HO_4 HO_12 HB GG94 HL715_1 HQ98 HR715_1 hf94_0 hx712_0 hx713_0 hx714_0 hx715_0 hx715_1 hx716_0 hx94_0 hHeld ⊢
                           refine pure_ (i := 0) (N := some 123) (v := ?_) (a' := ?_) #[true, false, false, false, false, false, false, false, false, false, false, false, false, false, false, false, false, false, false, false, false, false, false] rfl rfl (any_of HT_.out (by kernel_rfl)) (fun _ _ _ h => h) (Or.inl ⟨by rfl, ?_⟩) ?_ ?_
                           rotate_left
                           ·intro w'
                            go_simp
                            with_reducible rfl
                           rotate_left
                           ·simp only [Act.put, List.setIfInBounds_toArray, List.set_cons_zero, List.set_cons_succ, i64_w, i32_w]
                            rfl
                           refine pure_ (i := 1) (N := some 124) (v := ?_) (a' := ?_) #[true, true, false, false, false, false, false, false, false, false, false, false, false, false, false, false, false, false, false, false, false, false, false] rfl rfl (any_of HT_.out (by kernel_rfl)) (fun _ _ _ h => h) (Or.inl ⟨by rfl, ?_⟩) ?_ ?_
                           rotate_left
                           ·intro w'
                            go_simp
                            with_reducible rfl
                           rotate_left
                           ·simp only [Act.put, List.setIfInBounds_toArray, List.set_cons_zero, List.set_cons_succ, i64_w, i32_w]
                            rfl
                           refine pure_ (i := 2) (N := some 125) (v := ?_) (a' := ?_) #[true, true, true, false, false, false, false, false, false, false, false, false, false, false, false, false, false, false, false, false, false, false, false] rfl rfl (any_of HT_.out (by kernel_rfl)) (fun _ _ _ h => h) (Or.inl ⟨by rfl, ?_⟩) ?_ ?_
                           rotate_left
                           ·intro w'
                            go_simp
                            with_reducible rfl
                           rotate_left
                           ·simp only [Act.put, List.setIfInBounds_toArray, List.set_cons_zero, List.set_cons_succ, i64_w, i32_w]
                            rfl
                           refine pure_ (i := 3) (N := some 126) (v := ?_) (a' := ?_) #[true, true, true, true, false, false, false, false, false, false, false, false, false, false, false, false, false, false, false, false, false, false, false] rfl rfl (any_of HT_.out (by kernel_rfl)) (fun _ _ _ h => h) (Or.inl ⟨by rfl, ?_⟩) ?_ ?_
                           rotate_left
                           ·intro w'
                            go_simp
                            with_reducible rfl
                           rotate_left
                           ·simp only [Act.put, List.setIfInBounds_toArray, List.set_cons_zero, List.set_cons_succ, i64_w, i32_w]
                            rfl
                           refine pure_ (i := 5) (N := some 128) (v := ?_) (a' := ?_) #[true, true, true, true, false, true, false, false, false, false, false, false, false, false, false, false, false, false, false, false, false, false, false] rfl rfl (any_of HT_.out (by kernel_rfl)) (fun _ _ _ h => h) (Or.inl ⟨by rfl, ?_⟩) ?_ ?_
                           rotate_left
                           ·intro w'
                            go_simp
                            with_reducible rfl
                           rotate_left
                           ·simp only [Act.put, List.setIfInBounds_toArray, List.set_cons_zero, List.set_cons_succ, i64_w, i32_w]
                            rfl
                           refine pure_ (i := 6) (N := some 129) (v := ?_) (a' := ?_) #[true, true, true, true, false, true, true, false, false, false, false, false, false, false, false, false, false, false, false, false, false, false, false] rfl rfl (any_of HT_.out (by kernel_rfl)) (fun _ _ _ h => h) (Or.inl ⟨by rfl, ?_⟩) ?_ ?_
                           rotate_left
                           ·intro w'
                            go_simp
                            with_reducible rfl
                           rotate_left
                           ·simp only [Act.put, List.setIfInBounds_toArray, List.set_cons_zero, List.set_cons_succ, i64_w, i32_w]
                            rfl
                           refine pure_ (i := 7) (N := some 130) (v := ?_) (a' := ?_) #[true, true, true, true, false, true, true, true, false, false, false, false, false, false, false, false, false, false, false, false, false, false, false] rfl rfl (any_of HT_.out (by kernel_rfl)) (fun _ _ _ h => h) (Or.inl ⟨by rfl, ?_⟩) ?_ ?_
                           rotate_left
                           ·intro w'
                            go_simp
                            with_reducible rfl
                           rotate_left
                           ·simp only [Act.put, List.setIfInBounds_toArray, List.set_cons_zero, List.set_cons_succ, i64_w, i32_w]
                            rfl
                           refine pure_ (i := 8) (N := some 131) (v := ?_) (a' := ?_) #[true, true, true, true, false, true, true, true, true, false, false, false, false, false, false, false, false, false, false, false, false, false, false] rfl rfl (any_of HT_.out (by kernel_rfl)) (fun _ _ _ h => h) (Or.inl ⟨by rfl, ?_⟩) ?_ ?_
                           rotate_left
                           ·intro w'
                            go_simp
                            with_reducible rfl
                           rotate_left
                           ·simp only [Act.put, List.setIfInBounds_toArray, List.set_cons_zero, List.set_cons_succ, i64_w, i32_w]
                            rfl
                           refine pure_ (i := 12) (N := some 135) (v := ?_) (a' := ?_) #[true, true, true, true, false, true, true, true, true, false, false, false, true, false, false, false, false, false, false, false, false, false, false] rfl rfl (any_of HT_.out (by kernel_rfl)) (fun _ _ _ h => h) (Or.inl ⟨by rfl, ?_⟩) ?_ ?_
                           rotate_left
                           ·intro w'
                            go_simp
                            with_reducible rfl
                           rotate_left
                           ·simp only [Act.put, List.setIfInBounds_toArray, List.set_cons_zero, List.set_cons_succ, i64_w, i32_w]
                            rfl
                           refine pure_ (i := 13) (N := some 136) (v := ?_) (a' := ?_) #[true, true, true, true, false, true, true, true, true, false, false, false, true, true, false, false, false, false, false, false, false, false, false] rfl rfl (any_of HT_.out (by kernel_rfl)) (fun _ _ _ h => h) (Or.inl ⟨by rfl, ?_⟩) ?_ ?_
                           rotate_left
                           ·intro w'
                            go_simp
                            with_reducible rfl
                           rotate_left
                           ·simp only [Act.put, List.setIfInBounds_toArray, List.set_cons_zero, List.set_cons_succ, i64_w, i32_w]
                            rfl
                           refine pure_ (i := 14) (N := some 137) (v := ?_) (a' := ?_) #[true, true, true, true, false, true, true, true, true, false, false, false, true, true, true, false, false, false, false, false, false, false, false] rfl rfl (any_of HT_.out (by kernel_rfl)) (fun _ _ _ h => h) (Or.inl ⟨by rfl, ?_⟩) ?_ ?_
                           rotate_left
                           ·intro w'
                            go_simp
                            with_reducible rfl
                           rotate_left
                           ·simp only [Act.put, List.setIfInBounds_toArray, List.set_cons_zero, List.set_cons_succ, i64_w, i32_w]
                            rfl
                           refine pure_ (i := 15) (N := some 138) (v := ?_) (a' := ?_) #[true, true, true, true, false, true, true, true, true, false, false, false, true, true, true, true, false, false, false, false, false, false, false] rfl rfl (any_of HT_.out (by kernel_rfl)) (fun _ _ _ h => h) (Or.inl ⟨by rfl, ?_⟩) ?_ ?_
                           rotate_left
                           ·intro w'
                            go_simp
                            with_reducible rfl
                           rotate_left
                           ·simp only [Act.put, List.setIfInBounds_toArray, List.set_cons_zero, List.set_cons_succ, i64_w, i32_w]
                            rfl
                           refine pure_ (i := 17) (N := some 140) (v := ?_) (a' := ?_) #[true, true, true, true, false, true, true, true, true, false, false, false, true, true, true, true, false, true, false, false, false, false, false] rfl rfl (any_of HT_.out (by kernel_rfl)) (fun _ _ _ h => h) (Or.inl ⟨by rfl, ?_⟩) ?_ ?_
                           rotate_left
                           ·intro w'
                            go_simp
                            with_reducible rfl
                           rotate_left
                           ·simp only [Act.put, List.setIfInBounds_toArray, List.set_cons_zero, List.set_cons_succ, i64_w, i32_w]
                            rfl
                           refine take_ (i := 4) (N := some 127) (v := ?_) (a' := ?_) #[true, true, true, true, true, true, true, true, true, false, false, false, true, true, true, true, false, true, false, false, false, false, false] rfl rfl (take_ofW HT_.out HW_.out (by kernel_rfl)) (fun _ _ _ h => h) (Or.inl ⟨by rfl, ?_⟩) hHeld ?_ ?_
                           rotate_left
                           ·rintro w' ⟨s0, s1, s2, s3, s4, s5⟩
                            go_simp
                            with_reducible rfl
                           rotate_left
                           ·simp only [Act.put, List.setIfInBounds_toArray, List.set_cons_zero, List.set_cons_succ, i64_w, i32_w]
                            rfl
                           refine take_ (i := 9) (N := some 132) (v := ?_) (a' := ?_) #[true, true, true, true, true, true, true, true, true, true, false, false, true, true, true, true, false, true, false, false, false, false, false] rfl rfl (take_ofW HT_.out HW_.out (by kernel_rfl)) (fun _ _ _ h => h) (Or.inl ⟨by rfl, ?_⟩) hHeld ?_ ?_
                           rotate_left
                           ·rintro w' ⟨s0, s1, s2, s3, s4, s5⟩
                            go_simp
                            with_reducible rfl
                           rotate_left
                           ·simp only [Act.put, List.setIfInBounds_toArray, List.set_cons_zero, List.set_cons_succ, i64_w, i32_w]
                            rfl
                           refine pure_ (i := 10) (N := some 133) (v := ?_) (a' := ?_) #[true, true, true, true, true, true, true, true, true, true, true, false, true, true, true, true, false, true, false, false, false, false, false] rfl rfl (any_of HT_.out (by kernel_rfl)) (fun _ _ _ h => h) (Or.inl ⟨by rfl, ?_⟩) ?_ ?_
                           rotate_left
                           ·intro w'
                            go_simp
                            with_reducible rfl
                           rotate_left
                           ·simp only [Act.put, List.setIfInBounds_toArray, List.set_cons_zero, List.set_cons_succ, i64_w, i32_w]
                            rfl
                           refine take_ (i := 11) (N := some 134) (v := ?_) (a' := ?_) #[true, true, true, true, true, true, true, true, true, true, true, true, true, true, true, true, false, true, false, false, false, false, false] rfl rfl (take_ofW HT_.out HW_.out (by kernel_rfl)) (fun _ _ _ h => h) (Or.inl ⟨by rfl, ?_⟩) hHeld ?_ ?_
                           rotate_left
                           ·rintro w' ⟨s0, s1, s2, s3, s4, s5⟩
                            go_simp
                            with_reducible rfl
                           rotate_left
                           ·simp only [Act.put, List.setIfInBounds_toArray, List.set_cons_zero, List.set_cons_succ, i64_w, i32_w]
                            rfl
                           refine take_ (i := 16) (N := some 139) (v := ?_) (a' := ?_) #[true, true, true, true, true, true, true, true, true, true, true, true, true, true, true, true, true, true, false, false, false, false, false] rfl rfl (take_ofW HT_.out HW_.out (by kernel_rfl)) (fun _ _ _ h => h) (Or.inl ⟨by rfl, ?_⟩) hHeld ?_ ?_
                           rotate_left
                           ·rintro w' ⟨s0, s1, s2, s3, s4, s5⟩
                            go_simp
                            with_reducible rfl
                           rotate_left
                           ·simp only [Act.put, List.setIfInBounds_toArray, List.set_cons_zero, List.set_cons_succ, i64_w, i32_w]
                            rfl
                           refine pure_ (i := 18) (N := some 141) (v := ?_) (a' := ?_) #[true, true, true, true, true, true, true, true, true, true, true, true, true, true, true, true, true, true, true, false, false, false, false] rfl rfl (any_of HT_.out (by kernel_rfl)) (fun _ _ _ h => h) (Or.inl ⟨by rfl, ?_⟩) ?_ ?_
                           rotate_left
                           ·intro w'
                            go_simp
                            with_reducible rfl
                           rotate_left
                           ·simp only [Act.put, List.setIfInBounds_toArray, List.set_cons_zero, List.set_cons_succ, i64_w, i32_w]
                            rfl
                           refine take_ (i := 19) (N := some 142) (v := ?_) (a' := ?_) #[true, true, true, true, true, true, true, true, true, true, true, true, true, true, true, true, true, true, true, true, false, false, false] rfl rfl (take_ofW HT_.out HW_.out (by kernel_rfl)) (fun _ _ _ h => h) (Or.inl ⟨by rfl, ?_⟩) hHeld ?_ ?_
                           rotate_left
                           ·rintro w' ⟨s0, s1, s2, s3, s4, s5⟩
                            go_simp
                            with_reducible rfl
                           rotate_left
                           ·simp only [Act.put, List.setIfInBounds_toArray, List.set_cons_zero, List.set_cons_succ, i64_w, i32_w]
                            rfl
                           refine pure_ (i := 20) (N := some 143) (v := ?_) (a' := ?_) #[true, true, true, true, true, true, true, true, true, true, true, true, true, true, true, true, true, true, true, true, true, false, false] rfl rfl (any_of HT_.out (by kernel_rfl)) (fun _ _ _ h => h) (Or.inl ⟨by rfl, ?_⟩) ?_ ?_
                           rotate_left
                           ·intro w'
                            go_simp
                            with_reducible rfl
                           rotate_left
                           ·simp only [Act.put, List.setIfInBounds_toArray, List.set_cons_zero, List.set_cons_succ, i64_w, i32_w]
                            rfl
                           refine pure_ (i := 21) (N := some 144) (v := ?_) (a' := ?_) #[true, true, true, true, true, true, true, true, true, true, true, true, true, true, true, true, true, true, true, true, true, true, false] rfl rfl (any_of HT_.out (by kernel_rfl)) (fun _ _ _ h => h) (Or.inl ⟨by rfl, ?_⟩) ?_ ?_
                           rotate_left
                           ·intro w'
                            go_simp
                            with_reducible rfl
                           rotate_left
                           ·simp only [Act.put, List.setIfInBounds_toArray, List.set_cons_zero, List.set_cons_succ, i64_w, i32_w]
                            rfl
                           refine last_ (i := 22) (N := none) #[true, true, true, true, true, true, true, true, true, true, true, true, true, true, true, true, true, true, true, true, true, true, true] rfl rfl (one_of HT_.out (by kernel_rfl)) (by decide) (fun K hK => ?_)
                           refine skip_ (w1 := ?_) (by rfl) rfl ?_ ?_
                           rotate_left
                           ·go_simp
                            rfl
                           refine hK.out _ _ ?_
                           clear hK K
                           refine done_ (done_of HT_.out (by kernel_rfl)) ?_
                           try go_wp2
                           go_roundg k5
                           case measure => have := HK1.out; have := HK2.out; have := HK3.out; have := HK4.out; have := HK5.out; omega
                           case rel => exact ⟨(y717), (wrap64 (x15_5 + 1)), (by first | rfl | (simp; done) | (simp [*]; done)), H', ⟨by have := HK1.out; have := HK2.out; have := HK3.out; have := HK4.out; have := HK5.out; omega⟩, ⟨by (try simp only [hl4_2]); (with_reducible repeat (first | apply Kd.R_alloc | apply Kd.R_drewN | apply Kd.R_drew)); exact HQ98.out⟩, ⟨by (try simp only [hl4_2]); (with_reducible repeat (first | apply Kd.R_alloc | apply Kd.R_drewN | apply Kd.R_drew)); exact Kd.R_mono (Kd.R_far (p := ⟨go94, ((rd x4_2 x15_5) : Int).toNat, none⟩) (Kd.R_mono HO_4.out (fun k_ hk => (⟨hk, fun e_ => hk (by rw [e_]; rfl)⟩ : _ ∧ k_ ≠ go94))) (fun _ hk => hk.2) (.int .i64 (wrap64 ((rd x3_5 (rd x4_2 x15_5)) + (rd ((rd_T167 x12_3 x14_4).f1) x15_5))))) (fun _ hk => hk.1)⟩, ⟨by (try simp only [hl4_2]); (with_reducible repeat (first | apply Kd.N_alloc | apply Kd.N_drewN | apply Kd.N_drew)); exact Kd.N_mono (Kd.N_far (p := ⟨go94, ((rd x4_2 x15_5) : Int).toNat, none⟩) (Kd.N_mono HO_12.out (fun k_ hk => (⟨hk, fun e_ => hk.1 (by rw [e_]; rfl)⟩ : _ ∧ k_ ≠ go94))) (fun _ hk => hk.2) (.int .i64 (wrap64 ((rd x3_5 (rd x4_2 x15_5)) + (rd ((rd_T167 x12_3 x14_4).f1) x15_5))))) (fun _ hk => ⟨hk.1.1, hk.1.2⟩)⟩, ⟨by repeat (first | (with_reducible first | exact HB.out | apply below_alloc | apply pw_below_drewN | apply below_drew1 | refine below_set ?_ GB94.out) | exact HB.out)⟩⟩
                          ·rw [if_neg c93] at H
                           exact absurd H (by simp)
                         ·rw [if_neg c92] at H
                          exact absurd H (by simp)
                        ·rw [if_neg c91] at H
                         exact absurd H (by simp)
                       ·rw [if_neg c90] at H
                        exact absurd H (by simp)
                      ·rw [if_neg c89] at H
                       exact absurd H (by simp)
                     ·rw [if_neg c88] at H
                      exact absurd H (by simp)
                    ·rw [if_neg c87] at H
                     exact absurd H (by simp)
                   ·rw [if_neg c86] at H
                    have c86b0 : decide (x15_5 < (x4_2.length : Int)) = false := by rw [← hl4_2]; exact decide_eq_false c86
                    clear c86
                    have H' := Aside0.mk H
                    clear H
                    go_wp2
                    go_roundg k5
                    case measure => have := HK1.out; have := HK2.out; have := HK3.out; have := HK4.out; have := HK5.out; omega
                    case rel => exact ⟨(x3_5), (wrap64 (x14_4 + 1)), (by first | rfl | (simp; done) | (simp [*]; done)), H', ⟨by have := HK1.out; have := HK2.out; have := HK3.out; have := HK4.out; have := HK5.out; omega⟩, ⟨by (try simp only [hl4_2]); (with_reducible repeat (first | apply Kd.R_alloc | apply Kd.R_drewN | apply Kd.R_drew)); exact HO_3.out⟩, ⟨by (try simp only [hl4_2]); (with_reducible repeat (first | apply Kd.R_alloc | apply Kd.R_drewN | apply Kd.R_drew)); exact HO_4.out⟩, ⟨by (try simp only [hl4_2]); (with_reducible repeat (first | apply Kd.N_alloc | apply Kd.N_drewN | apply Kd.N_drew)); exact HO_12.out⟩, ⟨by repeat (first | (with_reducible first | exact HB.out | apply below_alloc | apply pw_below_drewN | apply below_drew1) | exact HB.out)⟩⟩
                ·rw [if_neg c85] at H
                 have c85b0 : decide (x14_4 < (wrap64 ((wrap64 (2 * (x4_2.length : Int))) - 2))) = false := by rw [← hl4_2]; exact decide_eq_false c85
                 clear c85
                 obtain rfl := Option.some.inj H
                 go_wp2
                 go_ret
                 exact ⟨_, by first | rfl | (simp [errW_none, errW_some] <;> rfl) | (simp [*, errW_none, errW_some] <;> rfl), by (with_reducible repeat (first | apply Kd.R_alloc | apply Kd.R_drewN | apply Kd.R_drew)); exact Kd.R_mono HO_3.out (fun _ hk => trivial), by repeat (first | (with_reducible first | exact HB.out | apply below_alloc | apply pw_below_drewN | apply below_drew1) | exact HB.out)⟩
   ·rw [if_neg c5] at H
    exact absurd H (by simp)
  ·rw [if_neg c4] at H
   exact absurd H (by simp)
 ·replace c3 := Bool.eq_false_iff.mpr c3
  subst c3
  have H1 : (some (([] : List Int))) = some r := by rw [if_neg (show ¬ (false = true) by decide)] at H; exact H
  clear H
  have H := H1
  clear H1
  obtain ⟨y638, hy638⟩ : ∃ y_ : List Int, y_ = (([] : List Int)) := ⟨_, rfl⟩
  replace H : (some y638) = some r := by first | (rw [hy638]; with_reducible exact H) | (have H2_ := (Option.bind_some _ _).symm.trans H; rw [hy638]; with_reducible exact H2_) | (have H2_ := (Option.bind_some _ _).symm.trans H; with_reducible exact H2_) | with_reducible exact H | (rw [hy638]; exact H) | exact H
  have Ny638 := Aside0.mk hy638
  clear hy638
  obtain rfl := Option.some.inj H
  go_enter Try.func154, Try.ntmps154
  go_wp2_with (first | ((with_reducible refine gate_callee (f := 173) rfl ?_); refine goesL_ (some 17) rfl rfl Try.func173 (by kernel_rfl) rfl #[.slice A0 l0.length c0] rfl (by (try simp only [List.map_toArray, List.map_cons, List.map_nil]); first | done | rfl | (simp only [List.length_drop, List.length_take]; rfl)) ?_; (with_reducible refine (spec_l08Freqs.calls k _ _ l0 false _ ?side1 ?side2 A2.out).mono ?_); (case side1 => repeat (first | exact HR0.out | (with_reducible refine Kd.C_alloc ?_ _) | (with_reducible refine Kd.C_drewN ?_ _) | (with_reducible refine Kd.C_drew ?_))); (case side2 => exact HC0.out); rintro e w' ⟨rfl, ⟨nd, rfl⟩⟩; refine ⟨_, rfl, ?_⟩) | ((with_reducible refine gate_dst (N := 19) rfl ?_); refine Kd.R_lit (Kd.int .i64) _ 3 ?hg (N := 19) ?hd (xs := ([] : List Int)) (inner := []) (ok := fun _ => True) (okp := fun _ => True) ?hr ?hp (fun _ hk => hk) trivial (Below.refl _ _) (Nat.le_refl _) (by simp) ?_; (case hd => rfl); (case hg => rfl); (case hr => first | (go_simp; done) | (go_simp; rfl)); (case hp => exact (Reps.none _ _)); intro v639 w99 ho100 hb hg_ hnew_; clear hg_ hnew_; (first | rw [← Ny638.out] at ho100 | (simp only [Int.reduceToNat] at ho100; rw [← Ny638.out] at ho100)); have n0_ := Aside0.mk (Kd.R_lower ho100 (below_size (by repeat (first | (with_reducible first | exact HB.out | apply below_alloc | apply pw_below_drewN | apply below_drew1) | exact HB.out)))); have n1_ := Aside0.mk (below_step (by repeat (first | (with_reducible first | exact HB.out | apply below_alloc | apply pw_below_drewN | apply below_drew1) | exact HB.out)) hb); clear HB; have HO640 := n0_; have HB := n1_; clear n0_ n1_; clear hb ho100))
  go_ret
  exact ⟨_, by first | rfl | (simp [errW_none, errW_some] <;> rfl) | (simp [*, errW_none, errW_some] <;> rfl), by (with_reducible repeat (first | apply Kd.R_alloc | apply Kd.R_drewN | apply Kd.R_drew)); exact HO640.out, by repeat (first | (with_reducible first | exact HB.out | apply below_alloc | apply pw_below_drewN | apply below_drew1) | exact HB.out)⟩
def ordOk (N : Nat) (l : List Int) : Prop := ∀ v ∈ l, 0 ≤ v ∧ v < N
theorem ordOk.at_ {N : Nat} {l : List Int} (h : ordOk N l) (i : Int) (h0 : 0 ≤ i) (h1 : i < l.length) : 0 ≤ rd l i ∧ rd l i < N := h _ (getD_mem l _ _ (by omega))
/-- how many there are behind so many mergings -/
def lenK (n : Nat) : Nat → Nat
 | 0 => n
 | k + 1 => n + lenK n k / 2
theorem lenK_le (n k : Nat) : lenK n k ≤ 2 * n := by
 induction k with
 | zero => simp only [lenK]; omega
 | succ k ih => simp only [lenK]; omega
theorem lenK_step (n k c : Nat) (h : 2 * n ≤ lenK n k + c) : 2 * n ≤ lenK n (k + 1) + (c + 1) / 2 := by simp only [lenK]; omega
theorem lenK_ge (n : Nat) (hn : n ≤ 256) : 2 * n ≤ lenK n 15 + 2 := by
 have g0 : 2 * n ≤ lenK n 0 + 256 := by simp only [lenK]; omega
 have g8 := lenK_step n 7 _ (lenK_step n 6 _ (lenK_step n 5 _ (lenK_step n 4 _ (lenK_step n 3 _ (lenK_step n 2 _ (lenK_step n 1 _ (lenK_step n 0 _ g0)))))))
 have g15 := lenK_step n 14 _ (lenK_step n 13 _ (lenK_step n 12 _ (lenK_step n 11 _ (lenK_step n 10 _ (lenK_step n 9 _ (lenK_step n 8 _ g8))))))
 simp only [Nat.reduceAdd, Nat.reduceDiv] at g15
 omega
section
variable {N : Nat} {P : List Int → Prop}
theorem spec_BestLens.l5_ev (hN : N ≤ 256) (x4 : List Int) (h4 : ordOk N x4) (hl4 : x4.length ≤ 256) (x12 : List S167) (hc : cntsOk x4.length x12) (t : Nat) (ht : t < x12.length) (k : ∀ x3 : List Int, x3.length = N → EvP (fun q => spec_BestLens.l4 q x3 x4 (x4.length : Int) x12 (wrap64 ((t : Int) + 1))) P) :
  ∀ (d j : Nat) (x3 : List Int), j + d = x4.length → x3.length = N → EvP (fun q => spec_BestLens.l5 q x3 x4 (x4.length : Int) x12 (t : Int) (j : Int)) P := by
 intro d
 induction d with
 | zero =>
  intro j x3 hj h3
  exact EvP.step (fun _ => by rw [spec_BestLens.l5]) (EvP.ng (by omega) (k x3 h3))
 | succ d ih =>
  intro j x3 hj h3
  have h5 := h4.at_ (j : Int) (by omega) (by omega)
  have h6 := hc.at_ (t : Int) (by omega) (by omega)
  refine EvP.step (fun _ => by rw [spec_BestLens.l5]) (EvP.ip (by omega) (EvP.ip (by omega) (EvP.ip (by omega) (EvP.ip h5.1 (EvP.ip (by rw [h3]; exact h5.2) (EvP.ip (by omega) (EvP.ip (by omega) (EvP.ip (by rw [h6]; omega) ?_))))))))
  rw [wrap_succ j (by omega)]
  exact ih (j + 1) _ (by omega) (by rw [List.length_set]; exact h3)
theorem spec_BestLens.l4_ev (hN : N ≤ 256) (x4 : List Int) (h4 : ordOk N x4) (hl4 : x4.length ≤ 256) (x12 : List S167) (hc : cntsOk x4.length x12) (hl : 2 * x4.length ≤ x12.length + 2) :
  ∀ (d t : Nat) (x3 : List Int), 2 * x4.length ≤ t + d + 2 → x3.length = N → EvP (fun q => spec_BestLens.l4 q x3 x4 (x4.length : Int) x12 (t : Int)) (fun r => r.length = N) := by
 have e : wrap64 (wrap64 (2 * (x4.length : Int)) - 2) = 2 * (x4.length : Int) - 2 := by rw [wrap_in (2 * (x4.length : Int)) (by omega) (by omega), wrap_in _ (by omega) (by omega)]
 intro d
 induction d with
 | zero =>
  intro t x3 ht h3
  refine EvP.step (fun _ => by rw [spec_BestLens.l4]) ?_
  rw [e]
  exact EvP.ng (by omega) (EvP.now h3)
 | succ d ih =>
  intro t x3 ht h3
  refine EvP.step (fun _ => by rw [spec_BestLens.l4]) ?_
  rw [e]
  refine EvP.either (fun hlt => ?_) (fun _ => EvP.now h3)
  refine spec_BestLens.l5_ev hN x4 h4 hl4 x12 hc t (by omega) (fun x3' h3' => ?_) x4.length 0 x3 (by omega) h3
  rw [wrap_succ t (by omega)]
  exact ih (t + 1) x3' (by omega) h3'
theorem spec_BestLens.l3_ev (hN : N ≤ 256) (x3 x4 : List Int) (h3 : x3.length = N) (h4 : ordOk N x4) (hl4 : x4.length ≤ 256) (x9 : List S167) (hc9 : cntsOk x4.length x9) (h9 : x9.length = x4.length) :
  ∀ (d m : Nat) (x12 : List S167), m + d = 15 → cntsOk x4.length x12 → x12.length = lenK x4.length m → EvP (fun q => spec_BestLens.l3 q x3 x4 (x4.length : Int) x9 x12 ((m + 1 : Nat) : Int)) (fun r => r.length = N) := by
 intro d
 induction d with
 | zero =>
  intro m x12 hm hc hl
  obtain rfl : m = 15 := by omega
  have := lenK_ge x4.length hl4
  refine EvP.step (fun _ => by rw [spec_BestLens.l3]) (EvP.ng (by omega) ?_)
  exact spec_BestLens.l4_ev hN x4 h4 hl4 x12 hc (by omega) (2 * x4.length) 0 x3 (by omega) h3
 | succ d ih =>
  intro m x12 hm hc hl
  have hle := lenK_le x4.length m
  refine EvP.step (fun _ => by rw [spec_BestLens.l3]) (EvP.ip (by omega) (EvP.bind (spec_l08Merge.ev x4.length x9 x12 hc9 hc (by omega) (by omega) (by omega)) (fun r hr => ?_)))
  rw [wrap_succ (m + 1) (by omega)]
  exact ih (m + 1) r (by omega) hr.1 (by rw [hr.2, hl, h9]; rfl)
theorem spec_BestLens.l2_ev (hN : N ≤ 256) (x0 x3 x4 : List Int) (h0 : x0.length = N) (h3 : x3.length = N) (h4 : ordOk N x4) (hl4 : x4.length ≤ 256) :
  ∀ (d i : Nat) (x9 : List S167), i + d = x4.length → cntsOk x4.length x9 → x9.length = i → EvP (fun q => spec_BestLens.l2 q x0 x3 x4 (x4.length : Int) x9 (i : Int)) (fun r => r.length = N) := by
 intro d
 induction d with
 | zero =>
  intro i x9 hi hc h9
  refine EvP.step (fun _ => by rw [spec_BestLens.l2]) (EvP.ng (by omega) ?_)
  exact spec_BestLens.l3_ev hN x3 x4 h3 h4 hl4 x9 hc (by omega) 15 0 x9 (by omega) hc (by simp only [lenK]; omega)
 | succ d ih =>
  intro i x9 hi hc h9
  have h5 := h4.at_ (i : Int) (by omega) (by omega)
  refine EvP.step (fun _ => by rw [spec_BestLens.l2]) (EvP.ip (by omega) (EvP.ip (by omega) (EvP.ip (by omega) (EvP.some ?_))))
  refine EvP.ip (by omega) (EvP.ip (by rw [List.length_replicate]; omega) (EvP.ip (by omega) (EvP.ip h5.1 (EvP.ip (by rw [h0]; exact h5.2) (EvP.ip (by omega) ?_)))))
  rw [wrap_succ i (by omega)]
  exact ih (i + 1) _ (by omega) (hc.push (by rw [List.length_set, List.length_replicate]; omega)) (by simp; omega)
theorem spec_BestLens.l1_ev (hN : N ≤ 256) (x0 x3 : List Int) (h0 : x0.length = N) (x4 : List Int) (h4 : ordOk N x4) (hl4 : x4.length ≤ 256) (i : Nat) (hi : i < N)
  (k : ∀ x4' : List Int, ordOk N x4' → x4'.length = x4.length + 1 → EvP (fun q => spec_BestLens.l0 q x0 x3 x4' (wrap64 ((i : Int) + 1))) P) : ∀ t : Nat, t ≤ x4.length → EvP (fun q => spec_BestLens.l1 q x0 x3 x4 (i : Int) (t : Int)) P := by
 have hput : ∀ t : Nat, t ≤ x4.length → EvP (fun q => spec_BestLens.l0 q x0 x3 (([] ++ x4.take ((t : Int)).toNat) ++ [(i : Int)] ++ x4.drop ((t : Int)).toNat) (wrap64 ((i : Int) + 1))) P := by
  intro t ht
  refine k _ (fun v hv => ?_) ?_
  ·rw [List.nil_append] at hv
   rcases List.mem_append.1 hv with hv | hv
   ·rcases List.mem_append.1 hv with hv | hv
    ·exact h4 v (List.mem_of_mem_take hv)
    ·rw [List.mem_singleton.1 hv]; omega
   ·exact h4 v (List.mem_of_mem_drop hv)
  ·rw [Int.toNat_natCast]; simp; omega
 intro t
 induction t with
 | zero =>
  intro ht
  refine EvP.step (fun _ => by rw [spec_BestLens.l1]) (EvP.ng (by omega) (EvP.some ?_))
  refine EvP.ip (by omega) (EvP.ip (by omega) (EvP.some ?_))
  refine EvP.ip (by simp) (EvP.some ?_)
  refine EvP.ip (by simp) (EvP.some (EvP.some ?_))
  refine EvP.ip (by simp; omega) ?_
  exact hput 0 (by omega)
 | succ t ih =>
  intro ht
  have e : wrap64 (((t + 1 : Nat) : Int) - 1) = (t : Int) := by rw [wrap_in _ (by omega) (by omega)]; omega
  have h5 := h4.at_ (t : Int) (by omega) (by omega)
  refine EvP.step (fun _ => by rw [spec_BestLens.l1]) (EvP.ip (by omega) ?_)
  rw [e]
  refine EvP.ip (by omega) (EvP.ip (by omega) (EvP.ip h5.1 (EvP.ip (by rw [h0]; exact h5.2) (EvP.ip (by omega) (EvP.ip (by omega) ?_)))))
  refine EvP.either (fun _ => ih (by omega)) (fun _ => EvP.some ?_)
  refine EvP.ip (by omega) (EvP.ip (by omega) (EvP.some ?_))
  refine EvP.ip (by simp; omega) (EvP.some ?_)
  refine EvP.ip (by simp; omega) (EvP.some (EvP.some ?_))
  refine EvP.ip (by simp; omega) ?_
  exact hput (t + 1) ht
end
theorem spec_BestLens.ev (x0 : List Int) : EvP (fun k => spec_BestLens.f k x0) (fun r => r.length ≤ 256) := by
 unfold spec_BestLens.f
 refine EvP.bind (spec_l08Freqs.ev x0) (fun b hb => ?_)
 refine EvP.either (fun h => ?_) (fun _ => EvP.now (by simp))
 have hN := hb h
 refine EvP.ip (by omega) (EvP.ip (by omega) ?_)
 rw [Int.toNat_natCast]
 have key : ∀ (d i : Nat) (x4 : List Int), i + d = x0.length → ordOk x0.length x4 → x4.length ≤ i → EvP (fun k => spec_BestLens.l0 k x0 (List.replicate x0.length 0) x4 (i : Int)) (fun r => r.length = x0.length) := by
  intro d
  induction d with
  | zero =>
   intro i x4 hi h4 hl
   refine EvP.step (fun _ => by rw [spec_BestLens.l0]) (EvP.ng (by omega) ?_)
   refine EvP.either (fun h1 => ?_) (fun _ => ?_)
   ·have h5 := h4.at_ 0 (by omega) (by omega)
    exact EvP.ip (by omega) (EvP.ip h5.1 (EvP.ip (by rw [List.length_replicate]; exact h5.2) (EvP.now (by simp))))
   ·exact spec_BestLens.l2_ev hN x0 _ x4 rfl (by simp) h4 (by omega) x4.length 0 [] (by omega) (fun t ht => by simp at ht) rfl
  | succ d ih =>
   intro i x4 hi h4 hl
   refine EvP.step (fun _ => by rw [spec_BestLens.l0]) (EvP.ip (by omega) (EvP.ip (by omega) ?_))
   have nx : ∀ x4' : List Int, ordOk x0.length x4' → x4'.length ≤ i + 1 → EvP (fun k => spec_BestLens.l0 k x0 (List.replicate x0.length 0) x4' (wrap64 ((i : Int) + 1))) (fun r => r.length = x0.length) := by
    intro x4' h1 h2
    rw [wrap_succ i (by omega)]
    exact ih (i + 1) x4' (by omega) h1 h2
   refine EvP.either (fun _ => nx x4 h4 (by omega)) (fun _ => ?_)
   exact spec_BestLens.l1_ev hN x0 _ rfl x4 h4 (by omega) i (by omega) (fun x4' h1 h2 => nx x4' h1 (by omega)) x4.length (Nat.le_refl _)
 exact (key x0.length 0 [] (by omega) (fun v hv => by simp at hv) (by simp)).mono (fun r hr => by rw [hr]; exact hN)
end Go.Proofs.Ytcjjmfpkhhdmlaa.G

