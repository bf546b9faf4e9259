import Derived.WalkSpells
import Derived.BigRegion
import Derived.Deep.CutRange
import Derived.Deep.RegionHeld3
import Derived.Deep.CutBlock
import Derived.Deep.RegionLaw
import Derived.Deep.LoopGhost
import Derived.Test.YtilimpjcdeeaiaaMFnExactDeskOk1
set_option linter.unusedVariables false
set_option linter.unusedSimpArgs false
namespace Go.Proofs.Ytilimpjcdeeaiaa.G
open Go.RowKit Go.Proofs.YtilimpjcdeeaiaaW.PrintWords Go.Proofs.YtilimpjcdeeaiaaW.PrintLast Go.Proofs.YtilimpjcdeeaiaaW.PrintMore
attribute [local go_sem] max2_int min2_int max_two min_two max_three min_three max_four min_four   -- for this text's walks alone
mutual
def impl_Unstuff.l0 : Nat → List Int → List Int → Int → Option (List Int × Int)
 | 0, _, _, _ => none
 | k + 1, x0, x4, x5 => if x5 < (x0.length : Int) then (if 0 ≤ x5 then (if (rd x0 x5) = 255 then (if (wrap64 (x5 + 1)) = (x0.length : Int) then (impl_Unstuff.j1 k x0 x4 x5 true) else (if 0 ≤ (wrap64 (x5 + 1)) then (if (wrap64 (x5 + 1)) < (x0.length : Int) then (impl_Unstuff.j1 k x0 x4 x5 ((rd x0 (wrap64 (x5 + 1))) != 0)) else (none)) else (none))) else (impl_Unstuff.j1 k x0 x4 x5 false)) else (none)) else (some (x4, (x0.length : Int)))
def impl_Unstuff.j1 : Nat → List Int → List Int → Int → Bool → Option (List Int × Int)
 | 0, _, _, _, _ => none
 | k + 1, x0, x4, x5, x32 => if x32 = true then (some (x4, x5)) else (if 0 ≤ x5 then (if x5 < (x0.length : Int) then (if x4.length < 140737488355328 then ((some (x4 ++ [rd x0 x5] : List Int)).bind fun y1258 => (if (rd x0 x5) = 255 then (impl_Unstuff.l0 k x0 y1258 (wrap64 ((wrap64 (x5 + 1)) + 1))) else (impl_Unstuff.l0 k x0 y1258 (wrap64 (x5 + 1))))) else (none)) else (none)) else (none))
end
def impl_Unstuff.f (k : Nat) (l0 : List Int) : Option (List Int × Int) := impl_Unstuff.l0 k l0 (([] : List Int)) 0
theorem impl_Unstuff.mono_l : ∀ k, (∀ y0 y1 y2, LeO (impl_Unstuff.l0 k y0 y1 y2) (impl_Unstuff.l0 (k + 1) y0 y1 y2)) ∧ (∀ y0 y1 y2 y3, LeO (impl_Unstuff.j1 k y0 y1 y2 y3) (impl_Unstuff.j1 (k + 1) y0 y1 y2 y3))
 | 0 => ⟨fun _ _ _ r h => by simp [impl_Unstuff.l0] at h, fun _ _ _ _ r h => by simp [impl_Unstuff.j1] at h⟩
 | k + 1 => by
  obtain ⟨ih0, ih1⟩ := impl_Unstuff.mono_l k
  refine ⟨?_, ?_⟩
  ·intro y0 y1 y2
   unfold impl_Unstuff.l0
   repeat' first
   | (with_reducible exact ih0 _ _ _)
   | (with_reducible exact ih1 _ _ _ _)
   | (with_reducible exact LeO.refl _)
   | (with_reducible exact LeO.none _)
   | (with_reducible refine LeO.ite ?_ ?_)
   | (with_reducible refine LeO.bind ?_ (fun _ => ?_))
   | exact ih0 _ _ _
   | exact ih1 _ _ _ _
   | exact LeO.none _
   | refine LeO.ite ?_ ?_
   | refine LeO.bind ?_ (fun _ => ?_)
  ·intro y0 y1 y2 y3
   unfold impl_Unstuff.j1
   repeat' first
   | (with_reducible exact ih0 _ _ _)
   | (with_reducible exact ih1 _ _ _ _)
   | (with_reducible exact LeO.refl _)
   | (with_reducible exact LeO.none _)
   | (with_reducible refine LeO.ite ?_ ?_)
   | (with_reducible refine LeO.bind ?_ (fun _ => ?_))
   | exact ih0 _ _ _
   | exact ih1 _ _ _ _
   | exact LeO.none _
   | refine LeO.ite ?_ ?_
   | refine LeO.bind ?_ (fun _ => ?_)
theorem impl_Unstuff.mono : ∀ a0 k, LeO (impl_Unstuff.f k a0) (impl_Unstuff.f (k + 1) a0) := by
 intro a0 k
 obtain ⟨ih0, ih1⟩ := impl_Unstuff.mono_l k
 unfold impl_Unstuff.f
 repeat' first
   | (with_reducible exact ih0 _ _ _)
   | (with_reducible exact ih1 _ _ _ _)
   | (with_reducible exact LeO.refl _)
   | (with_reducible exact LeO.none _)
   | (with_reducible refine LeO.ite ?_ ?_)
   | (with_reducible refine LeO.bind ?_ (fun _ => ?_))
   | exact ih0 _ _ _
   | exact ih1 _ _ _ _
   | exact LeO.none _
   | refine LeO.ite ?_ ?_
   | refine LeO.bind ?_ (fun _ => ?_)
set_option maxHeartbeats 8000000 in
set_option maxRecDepth 100000 in
theorem impl_Unstuff.calls (k : Nat) (A0 : Option Addr) (c0 : Nat) (l0 : List Int) (r1 : List Int) (r2 : Int) (w : World) (hr0 : Kd.C (Kd.int .u8) w A0 l0.length l0) (hc0 : l0.length ≤ c0) (h : impl_Unstuff.f k l0 = some (r1, r2)) :
  Calls Try.prog 171 #[.slice A0 l0.length c0] w fun e w' => ∃ v0_ : Value, e = .returned (.tuple #[v0_, .int .i64 r2]) ∧ Kd.R (Kd.int .u8) 5 w' w.heap.size (fun _ => True) v0_ r1 ∧ Below w.heap.size w w' := by
 have HR0 := zA hr0
 have HC0 := zA hc0
 clear hr0 hc0
 have HB := zA (Below.refl w.heap.size w)
 have H : (impl_Unstuff.l0 k l0 (([] : List Int)) 0) = some (r1, r2) := h
 clear h
 obtain ⟨y1252, hy1252⟩ : ∃ y_ : List Int, y_ = (([] : List Int)) := ⟨_, rfl⟩
 replace H : (impl_Unstuff.l0 k l0 y1252 0) = some (r1, r2) := by first | (rw [hy1252]; with_reducible exact H) | (have H2_ := (zS _ _).symm.trans H; rw [hy1252]; with_reducible exact H2_) | (have H2_ := (zS _ _).symm.trans H; with_reducible exact H2_) | with_reducible exact H | (rw [hy1252]; exact H) | exact H
 have Ny1252 := zA hy1252
 clear hy1252
 have H' := zA H
 clear H
 go_enter Try.func171, Try.ntmps171
 go_wp2_with (first | ((with_reducible refine gate_dst (N := 6) rfl ?_); (try (refine gate_guard (by rfl) ?_; dsimp only)); refine Kd.R_lit (Kd.int .u8) _ 5 ?hg (N := 6) ?hd (xs := ([] : List Int)) (inner := []) (ok := fun _ => True) (okp := fun _ => True) ?hr ?hp (fun _ hk => hk) trivial (Below.refl _ _) (Nat.le_refl _) (by simp) ?_; (case hd => rfl); (case hg => rfl); (case hr => first | (go_simp; done) | (go_simp; rfl)); (case hp => exact (Reps.none _ _)); intro v1253 w2 ho3 hb hg_ hnew_; clear hg_ hnew_; (first | rw [← Ny1252.out] at ho3 | (simp only [Int.reduceToNat] at ho3; rw [← Ny1252.out] at ho3)); have n0_ := zA (Kd.R_lower ho3 (zL (by repeat (first | (with_reducible first | exact HB.out | apply zC | apply zB | apply zF) | exact HB.out)))); have n1_ := zA (below_step (by repeat (first | (with_reducible first | exact HB.out | apply zC | apply zB | apply zF) | exact HB.out)) hb); clear HB; have HO1254 := n0_; have HB := n1_; clear n0_ n1_; clear hb ho3))
 go_loopg [4, 5] k (fun kq v4 v5 w' => ∃ (x4_1 : List Int) (x5_1 : Int), v5 = .int .i64 x5_1 ∧ Aside0 (impl_Unstuff.l0 kq l0 x4_1 x5_1 = some (r1, r2)) ∧ Aside0 (kq ≤ k) ∧ Aside0 (Kd.R (Kd.int .u8) 5 w' w.heap.size (fun _ => True) v4 x4_1) ∧ Aside0 (Below w.heap.size w w'))
 case atStart => exact ⟨(y1252), (0), (by first | rfl | (simp; done) | (simp [*]; done)), H', ⟨Nat.le_refl _⟩, ⟨by (with_reducible repeat (first | apply zN | apply zM | apply zO)); exact HO1254.out⟩, ⟨by repeat (first | (with_reducible first | exact HB.out | apply zC | apply zB | apply zF) | exact HB.out)⟩⟩
 case round =>
  clear H'
  try clear c1
  try clear p2
  obtain ⟨x4_1, x5_1, rfl, HA, HK1, HO_4, HB⟩ := hrel
  cases gk with
  | zero => exact absurd HA.out (by simp [impl_Unstuff.l0])
  | succ k1 =>
   have H := HA.out
   clear HA
   simp only [impl_Unstuff.l0] at H
   by_cases c4 : x5_1 < (l0.length : Int)
   ·rw [if_pos c4] at H
    have c4b0 : decide (x5_1 < (l0.length : Int)) = true := zT c4
    clear c4
    have HC5 := zA H
    clear H
    go_upto_region 5 with (fail)
    go_cut [32] (fun v32 wc => ∃ (kq : Nat) (x32_4 : Bool), v32 = .bool x32_4 ∧ Aside0 (impl_Unstuff.j1 kq l0 x4_1 x5_1 x32_4 = some (r1, r2)) ∧ Aside0 (kq ≤ k1) ∧ Aside0 (Kd.R (Kd.int .u8) 5 wc w.heap.size (fun _ => True) u4 x4_1) ∧ Aside0 (Below w.heap.size w wc))
    case first =>
     have H := HC5.out
     clear HC5
     by_cases c6 : 0 ≤ x5_1
     ·rw [if_pos c6] at H
      have c6b0 : decide (0 ≤ x5_1) = true := zT c6
      clear c6
      (first | rw [c6b0] | (simp only [i64_w, i32_w]; rw [c6b0]) | skip)
      by_cases c7 : (rd l0 x5_1) = 255
      ·rw [if_pos c7] at H
       have c7b0 : ((rd l0 x5_1) == 255) = true := beq_iff_eq.mpr c7
       have c7b1 : ((rd l0 x5_1) != 255) = false := bne_eq_false_iff_eq.mpr c7
       clear c7
       by_cases c8 : (wrap64 (x5_1 + 1)) = (l0.length : Int)
       ·rw [if_pos c8] at H
        have c8b0 : ((wrap64 (x5_1 + 1)) == (l0.length : Int)) = true := beq_iff_eq.mpr c8
        have c8b1 : ((wrap64 (x5_1 + 1)) != (l0.length : Int)) = false := bne_eq_false_iff_eq.mpr c8
        clear c8
        have H' := zA H
        clear H
        have p1255 : 0 ≤ (x5_1 : Int) := zI (by first | (with_reducible assumption) | assumption)
        have q1255 : x5_1 < (l0.length : Int) := zI (by first | (with_reducible assumption) | assumption)
        obtain ⟨ad1255, e1255, hx1255_0⟩ := Kd.at_int HR0.out x5_1 p1255 q1255
        cases e1255
        replace hx1255_0 := (HB.out.cell (World.block_lt_of_cell? w _ hx1255_0)).trans hx1255_0
        replace p1255 := eq_true p1255
        replace q1255 := eq_true q1255
        go_wp2
        go_meet
        case rel => exact ⟨_, (true), (by first | rfl | (simp; done) | (simp [*]; done)), H', ⟨by have := HK1.out; first | omega | exact Nat.le_refl _⟩, ⟨by (with_reducible repeat (first | apply zN | apply zM | apply zO)); exact HO_4.out⟩, ⟨by repeat (first | (with_reducible first | exact HB.out | apply zC | apply zB | apply zF) | exact HB.out)⟩⟩
       ·rw [if_neg c8] at H
        have c8b0 : ((wrap64 (x5_1 + 1)) == (l0.length : Int)) = false := beq_eq_false_iff_ne.mpr c8
        have c8b1 : ((wrap64 (x5_1 + 1)) != (l0.length : Int)) = true := bne_iff_ne.mpr c8
        obtain ⟨ji9, hji9⟩ : ∃ j_ : Int, (wrap64 (x5_1 + 1)) = j_ := ⟨_, rfl⟩
        replace H : (if 0 ≤ (ji9) then (if (ji9) < (l0.length : Int) then (impl_Unstuff.j1 k1 l0 x4_1 x5_1 ((rd l0 (ji9)) != 0)) else (none)) else (none)) = some (r1, r2) := by first | (rw [hji9] at H; exact H) | (simp only [hji9] at H ⊢; exact H)
        (try rw [hji9] at c8b0)
        (try rw [hji9] at c8b1)
        have hji9w : (IntKind.i64.wrap (x5_1 + 1)) = ji9 := (i64_w _).trans hji9
        by_cases c10 : 0 ≤ (ji9)
        ·rw [if_pos c10] at H
         have c10b0 : decide (0 ≤ (ji9)) = true := zT c10
         clear c10
         by_cases c11 : (ji9) < (l0.length : Int)
         ·rw [if_pos c11] at H
          have c11b0 : decide ((ji9) < (l0.length : Int)) = true := zT c11
          clear c11
          have H' := zA H
          clear H
          have p1255 : 0 ≤ (x5_1 : Int) := zI (by first | (with_reducible assumption) | assumption)
          have q1255 : x5_1 < (l0.length : Int) := zI (by first | (with_reducible assumption) | assumption)
          obtain ⟨ad1255, e1255, hx1255_0⟩ := Kd.at_int HR0.out x5_1 p1255 q1255
          cases e1255
          replace hx1255_0 := (HB.out.cell (World.block_lt_of_cell? w _ hx1255_0)).trans hx1255_0
          replace p1255 := eq_true p1255
          replace q1255 := eq_true q1255
          have p1256 : 0 ≤ ((ji9) : Int) := zI (by first | (with_reducible assumption) | assumption)
          have q1256 : (ji9) < (l0.length : Int) := zI (by first | (with_reducible assumption) | assumption)
          obtain ⟨ad1256, e1256, hx1256_0⟩ := Kd.at_int HR0.out (ji9) p1256 q1256
          obtain rfl : ad1255 = ad1256 := (by injection e1256)
          replace hx1256_0 := (HB.out.cell (World.block_lt_of_cell? w _ hx1256_0)).trans hx1256_0
          replace p1256 := eq_true p1256
          replace q1256 := eq_true q1256
          go_wp2
          go_meet
          case rel => exact ⟨_, (((rd l0 (ji9)) != 0)), (by first | rfl | (simp; done) | (simp only [← hji9] <;> (first | rfl | simp)) | (simp [*]; done)), H', ⟨by have := HK1.out; first | omega | exact Nat.le_refl _⟩, ⟨by (with_reducible repeat (first | apply zN | apply zM | apply zO)); exact HO_4.out⟩, ⟨by repeat (first | (with_reducible first | exact HB.out | apply zC | apply zB | apply zF) | exact HB.out)⟩⟩
         ·rw [if_neg c11] at H
          exact absurd H (by simp)
        ·rw [if_neg c10] at H
         exact absurd H (by simp)
      ·rw [if_neg c7] at H
       have c7b0 : ((rd l0 x5_1) == 255) = false := beq_eq_false_iff_ne.mpr c7
       have c7b1 : ((rd l0 x5_1) != 255) = true := bne_iff_ne.mpr c7
       have H' := zA H
       clear H
       have p1255 : 0 ≤ (x5_1 : Int) := zI (by first | (with_reducible assumption) | assumption)
       have q1255 : x5_1 < (l0.length : Int) := zI (by first | (with_reducible assumption) | assumption)
       obtain ⟨ad1255, e1255, hx1255_0⟩ := Kd.at_int HR0.out x5_1 p1255 q1255
       cases e1255
       replace hx1255_0 := (HB.out.cell (World.block_lt_of_cell? w _ hx1255_0)).trans hx1255_0
       replace p1255 := eq_true p1255
       replace q1255 := eq_true q1255
       go_wp2
       go_meet
       case rel => exact ⟨_, (false), (by first | rfl | (simp; done) | (simp [*]; done)), H', ⟨by have := HK1.out; first | omega | exact Nat.le_refl _⟩, ⟨by (with_reducible repeat (first | apply zN | apply zM | apply zO)); exact HO_4.out⟩, ⟨by repeat (first | (with_reducible first | exact HB.out | apply zC | apply zB | apply zF) | exact HB.out)⟩⟩
     ·rw [if_neg c6] at H
      exact absurd H (by simp)
    case rest =>
     clear HC5
     try clear c1
     try clear p1
     try clear q1
     try clear hx1
     try clear p2
     try clear c4
     try clear c4b0
     try clear c6
     try clear c6b0
     try clear p6
     try clear c7
     try clear c7b0
     try clear c7b1
     try clear c8
     try clear c8b0
     try clear c8b1
     try clear c10
     try clear c10b0
     try clear c11
     try clear c11b0
     try clear hx1255_0
     try clear hx1256_0
     try clear p1255
     try clear p1256
     try clear p2
     try clear q1255
     try clear q1256
     obtain ⟨kq, x32_4, rfl, HA, HJ4, HO_4, HB⟩ := hcut
     cases kq with
     | zero => exact absurd HA.out (by simp [impl_Unstuff.j1])
     | succ kj4 =>
      have H := HA.out
      clear HA
      simp only [impl_Unstuff.j1] at H
      by_cases c12 : x32_4 = true
      ·subst c12
       have H1 : (some (x4_1, x5_1)) = some (r1, r2) := by rw [if_pos rfl] at H; exact H
       clear H
       have H := H1
       clear H1
       simp only [Option.some.injEq, Prod.mk.injEq] at H
       obtain ⟨rfl, rfl⟩ := H
       go_wp2
       go_ret2
       exact ⟨_, by first | rfl | (simp [errW_none, errW_some] <;> rfl) | (simp [*, errW_none, errW_some] <;> rfl), by (with_reducible repeat (first | apply zN | apply zM | apply zO)); exact HO_4.out, by repeat (first | (with_reducible first | exact HB.out | apply zC | apply zB | apply zF) | exact HB.out)⟩
      ·replace c12 := Bool.eq_false_iff.mpr c12
       subst c12
       have H1 : (if 0 ≤ x5_1 then (if x5_1 < (l0.length : Int) then (if x4_1.length < 140737488355328 then ((some (x4_1 ++ [rd l0 x5_1] : List Int)).bind fun y1258 => (if (rd l0 x5_1) = 255 then (impl_Unstuff.l0 kj4 l0 y1258 (wrap64 ((wrap64 (x5_1 + 1)) + 1))) else (impl_Unstuff.l0 kj4 l0 y1258 (wrap64 (x5_1 + 1))))) else (none)) else (none)) else (none)) = some (r1, r2) := by rw [if_neg (show ¬ (false = true) by decide)] at H; exact H
       clear H
       have H := H1
       clear H1
       by_cases c13 : 0 ≤ x5_1
       ·rw [if_pos c13] at H
        have c13b0 : decide (0 ≤ x5_1) = true := zT c13
        clear c13
        by_cases c14 : x5_1 < (l0.length : Int)
        ·rw [if_pos c14] at H
         have c14b0 : decide (x5_1 < (l0.length : Int)) = true := zT c14
         clear c14
         by_cases c15 : x4_1.length < 140737488355328
         ·rw [if_pos c15] at H
          have LMc15 := zA c15
          clear c15
          obtain ⟨y1258, hy1258⟩ : ∃ y_ : List Int, y_ = (x4_1 ++ [rd l0 x5_1]) := ⟨_, rfl⟩
          replace H : (if (rd l0 x5_1) = 255 then (impl_Unstuff.l0 kj4 l0 y1258 (wrap64 ((wrap64 (x5_1 + 1)) + 1))) else (impl_Unstuff.l0 kj4 l0 y1258 (wrap64 (x5_1 + 1)))) = some (r1, r2) := by first | (rw [hy1258]; with_reducible exact H) | (have H2_ := (zS _ _).symm.trans H; rw [hy1258]; with_reducible exact H2_) | (have H2_ := (zS _ _).symm.trans H; with_reducible exact H2_) | with_reducible exact H | (rw [hy1258]; exact H) | exact H
          have Ny1258 := zA hy1258
          clear hy1258
          by_cases c16 : (rd l0 x5_1) = 255
          ·rw [if_pos c16] at H
           have c16b0 : ((rd l0 x5_1) == 255) = true := beq_iff_eq.mpr c16
           have c16b1 : ((rd l0 x5_1) != 255) = false := bne_eq_false_iff_eq.mpr c16
           clear c16
           have H' := zA H
           clear H
           have p1257 : 0 ≤ (x5_1 : Int) := zI (by first | (with_reducible assumption) | assumption)
           have q1257 : x5_1 < (l0.length : Int) := zI (by first | (with_reducible assumption) | assumption)
           obtain ⟨ad1257, e1257, hx1257_0⟩ := Kd.at_int HR0.out x5_1 p1257 q1257
           cases e1257
           replace hx1257_0 := (HB.out.cell (World.block_lt_of_cell? w _ hx1257_0)).trans hx1257_0
           replace p1257 := eq_true p1257
           replace q1257 := eq_true q1257
           go_wp2_with (first | ((with_reducible refine gate_builtin (b := .append) (xs := #[.tmp 35, .tmp 40]) rfl ?_); (try (refine gate_guard (by rfl) ?_; dsimp only)); at_builtin; refine Kd.R_append (Kd.int .u8) (w0 := w) w.heap.size rfl (.tmp 35) (.tmp 40) 22 5 (.int .u8 0) 1 rfl Try.underlying22 info5 rfl (by decide) (by omega) u4 x4_1 (rd l0 x5_1) [.int .u8 (rd l0 x5_1)] (fun _ => True) (fun _ => False) rfl rfl ?aP (fun _ hk => hk.elim) ?aF ?aO ?aB ?aS ?aL ?_; (case aP => exact rfl); (case aB => exact (by repeat (first | (with_reducible first | exact HB.out | apply zC | apply zB | apply zF) | exact HB.out))); (case aF => exact (fun _ _ => trivial)); (case aO => exact (by (with_reducible repeat (first | apply zN | apply zM | apply zO)); exact HO_4.out)); (case aS => exact (zL (by repeat (first | (with_reducible first | exact HB.out | apply zC | apply zB | apply zF) | exact HB.out)))); (case aL => have := LMc15.out; omega); intro v1259 w17 ho hb hg hat; rw [← Ny1258.out] at ho; have n0_ := zA (hb); have n1_ := zA (ho); clear HB; clear HO_4; have HB := n0_; have HO1260 := n1_; clear n0_ n1_; clear ho hb hg hat; have p1261 : 0 ≤ (x5_1 : Int) := zI (by first | (with_reducible assumption) | assumption); have q1261 : x5_1 < (l0.length : Int) := zI (by first | (with_reducible assumption) | assumption); obtain ⟨ad1261, e1261, hx1261_0⟩ := Kd.at_int HR0.out x5_1 p1261 q1261; obtain rfl : ad1257 = ad1261 := (by injection e1261); replace hx1261_0 := (HB.out.cell (World.block_lt_of_cell? w _ hx1261_0)).trans hx1261_0; replace p1261 := eq_true p1261; replace q1261 := eq_true q1261))
           go_roundg kj4
           case measure => have := HK1.out; have := HJ4.out; omega
           case rel => exact ⟨(y1258), (wrap64 ((wrap64 (x5_1 + 1)) + 1)), (by first | rfl | (simp; done) | (simp [*]; done)), H', ⟨by have := HK1.out; have := HJ4.out; omega⟩, ⟨by (with_reducible repeat (first | apply zN | apply zM | apply zO)); exact HO1260.out⟩, ⟨by repeat (first | (with_reducible first | exact HB.out | apply zC | apply zB | apply zF) | exact HB.out)⟩⟩
          ·rw [if_neg c16] at H
           have c16b0 : ((rd l0 x5_1) == 255) = false := beq_eq_false_iff_ne.mpr c16
           have c16b1 : ((rd l0 x5_1) != 255) = true := bne_iff_ne.mpr c16
           have H' := zA H
           clear H
           have p1257 : 0 ≤ (x5_1 : Int) := zI (by first | (with_reducible assumption) | assumption)
           have q1257 : x5_1 < (l0.length : Int) := zI (by first | (with_reducible assumption) | assumption)
           obtain ⟨ad1257, e1257, hx1257_0⟩ := Kd.at_int HR0.out x5_1 p1257 q1257
           cases e1257
           replace hx1257_0 := (HB.out.cell (World.block_lt_of_cell? w _ hx1257_0)).trans hx1257_0
           replace p1257 := eq_true p1257
           replace q1257 := eq_true q1257
           go_wp2_with (first | ((with_reducible refine gate_builtin (b := .append) (xs := #[.tmp 35, .tmp 40]) rfl ?_); (try (refine gate_guard (by rfl) ?_; dsimp only)); at_builtin; refine Kd.R_append (Kd.int .u8) (w0 := w) w.heap.size rfl (.tmp 35) (.tmp 40) 22 5 (.int .u8 0) 1 rfl Try.underlying22 info5 rfl (by decide) (by omega) u4 x4_1 (rd l0 x5_1) [.int .u8 (rd l0 x5_1)] (fun _ => True) (fun _ => False) rfl rfl ?aP (fun _ hk => hk.elim) ?aF ?aO ?aB ?aS ?aL ?_; (case aP => exact rfl); (case aB => exact (by repeat (first | (with_reducible first | exact HB.out | apply zC | apply zB | apply zF) | exact HB.out))); (case aF => exact (fun _ _ => trivial)); (case aO => exact (by (with_reducible repeat (first | apply zN | apply zM | apply zO)); exact HO_4.out)); (case aS => exact (zL (by repeat (first | (with_reducible first | exact HB.out | apply zC | apply zB | apply zF) | exact HB.out)))); (case aL => have := LMc15.out; omega); intro v1259 w18 ho hb hg hat; rw [← Ny1258.out] at ho; have n0_ := zA (hb); have n1_ := zA (ho); clear HB; clear HO_4; have HB := n0_; have HO1260 := n1_; clear n0_ n1_; clear ho hb hg hat; have p1261 : 0 ≤ (x5_1 : Int) := zI (by first | (with_reducible assumption) | assumption); have q1261 : x5_1 < (l0.length : Int) := zI (by first | (with_reducible assumption) | assumption); obtain ⟨ad1261, e1261, hx1261_0⟩ := Kd.at_int HR0.out x5_1 p1261 q1261; obtain rfl : ad1257 = ad1261 := (by injection e1261); replace hx1261_0 := (HB.out.cell (World.block_lt_of_cell? w _ hx1261_0)).trans hx1261_0; replace p1261 := eq_true p1261; replace q1261 := eq_true q1261))
           go_roundg kj4
           case measure => have := HK1.out; have := HJ4.out; omega
           case rel => exact ⟨(y1258), (wrap64 (x5_1 + 1)), (by first | rfl | (simp; done) | (simp [*]; done)), H', ⟨by have := HK1.out; have := HJ4.out; omega⟩, ⟨by (with_reducible repeat (first | apply zN | apply zM | apply zO)); exact HO1260.out⟩, ⟨by repeat (first | (with_reducible first | exact HB.out | apply zC | apply zB | apply zF) | exact HB.out)⟩⟩
         ·rw [if_neg c15] at H
          exact absurd H (by simp)
        ·rw [if_neg c14] at H
         exact absurd H (by simp)
       ·rw [if_neg c13] at H
        exact absurd H (by simp)
   ·rw [if_neg c4] at H
    have c4b0 : decide (x5_1 < (l0.length : Int)) = false := decide_eq_false c4
    clear c4
    simp only [Option.some.injEq, Prod.mk.injEq] at H
    obtain ⟨rfl, rfl⟩ := H
    go_wp2
    go_ret2
    exact ⟨_, by first | rfl | (simp [errW_none, errW_some] <;> rfl) | (simp [*, errW_none, errW_some] <;> rfl), by (with_reducible repeat (first | apply zN | apply zM | apply zO)); exact HO_4.out, by repeat (first | (with_reducible first | exact HB.out | apply zC | apply zB | apply zF) | exact HB.out)⟩
theorem un_impl (b : List Int) (hb : b.length ≤ 1048576) : Ev (fun k => impl_Unstuff.f k b) ((un b).1, ((un b).2 : Int)) := by
 unfold impl_Unstuff.f
 have key : ∀ n i : Nat, ∀ out : List Int, b.length - i ≤ n → i ≤ b.length → out.length ≤ i → Ev (fun k => impl_Unstuff.l0 k b out (i : Int)) (out ++ (un (b.drop i)).1, ((i + (un (b.drop i)).2 : Nat) : Int)) := by
  intro n
  induction n with
  | zero =>
   intro i out hn hi ho
   obtain rfl : i = b.length := by omega
   refine Ev.step (fun _ => by rw [impl_Unstuff.l0]) (Ev.ng (by omega) (Ev.eq (Ev.now _) ?_))
   rw [List.drop_length]
   simp [un]
  | succ n ih =>
   intro i out hn hi ho
   by_cases hlt : i < b.length
   ·refine Ev.step (fun _ => by rw [impl_Unstuff.l0]) (Ev.ip (by omega) (Ev.ip (by omega) ?_))
    rw [rd_nat b i hlt, wrap_succ i (by omega)]
    by_cases hx : b[i] = 255
    ·refine Ev.ip hx ?_
     by_cases he : i + 1 = b.length
     ·refine Ev.ip (by omega) (Ev.step (fun _ => by rw [impl_Unstuff.j1]) (Ev.ip rfl (Ev.eq (Ev.now _) ?_)))
      rw [drop_last b i hlt he, hx, un_one]
      simp
     ·refine Ev.ng (by omega) (Ev.ip (by omega) (Ev.ip (by omega) ?_))
      rw [rd_nat b (i + 1) (by omega)]
      by_cases hy : b[i + 1] = 0
      ·rw [hy]
       refine Ev.step (fun _ => by rw [impl_Unstuff.j1]) (Ev.ng (by decide) (Ev.ip (by omega) (Ev.ip (by omega) (Ev.ip (by omega) (Ev.bind (Ev.c rfl) ?_)))))
       rw [rd_nat b i hlt]
       refine Ev.ip hx ?_
       rw [wrap_succ i (by omega), wrap_succ (i + 1) (by omega)]
       refine Ev.eq (ih (i + 2) (out ++ [b[i]]) (by omega) (by omega) (by simp; omega)) ?_
       rw [drop_two b i (by omega), hx, hy, un_two]
       simp
       omega
      ·refine Ev.step (fun _ => by rw [impl_Unstuff.j1]) (Ev.ip (by simp [hy]) (Ev.eq (Ev.now _) ?_))
       rw [drop_two b i (by omega), hx, un_stop _ _ hy]
       simp
    ·refine Ev.ng hx (Ev.step (fun _ => by rw [impl_Unstuff.j1]) (Ev.ng (by decide) (Ev.ip (by omega) (Ev.ip (by omega) (Ev.ip (by omega) (Ev.bind (Ev.c rfl) ?_))))))
     rw [rd_nat b i hlt]
     refine Ev.ng hx ?_
     rw [wrap_succ i (by omega)]
     refine Ev.eq (ih (i + 1) (out ++ [b[i]]) (by omega) (by omega) (by simp; omega)) ?_
     rw [List.drop_eq_getElem_cons hlt, un_ne _ _ hx]
     simp
     omega
   ·obtain rfl : i = b.length := by omega
    refine Ev.step (fun _ => by rw [impl_Unstuff.l0]) (Ev.ng (by omega) (Ev.eq (Ev.now _) ?_))
    rw [List.drop_length]
    simp [un]
 have := key _ 0 [] (Nat.le_refl _) (by omega) (by simp)
 simpa using this
end Go.Proofs.Ytilimpjcdeeaiaa.G


namespace Go.Proofs.Ytilimpjcdeeaiaa.G
open Go.RowKit Go.Proofs.YtilimpjcdeeaiaaW.PrintWords Go.Proofs.YtilimpjcdeeaiaaW.PrintLast Go.Proofs.YtilimpjcdeeaiaaW.PrintMore
attribute [local go_sem] max2_int min2_int max_two min_two max_three min_three max_four min_four   -- for this text's walks alone
--import Derived.WalkSpells
theorem eql_slice_nil {P : Program} (w : World) (t e : TypeId) (a : Option Addr) (n c n' c' : Nat) (h : P.underlying t = some (.slice e)) :
  (binOp .eql t (.slice a n c) (.slice none n' c')).run P w = .ok (.bool a.isNone) w := by
 simp only [binOp]
 simp [Op.equal, Op.maxDepth, Lib.run_equalIn_slice_nil w 9999 t e a n c n' c' h]
end Go.Proofs.Ytilimpjcdeeaiaa.G


namespace Go.Proofs.Ytilimpjcdeeaiaa.G
open Go.RowKit Go.Proofs.YtilimpjcdeeaiaaW.PrintWords Go.Proofs.YtilimpjcdeeaiaaW.PrintLast Go.Proofs.YtilimpjcdeeaiaaW.PrintMore
attribute [local go_sem] max2_int min2_int max_two min_two max_three min_three max_four min_four   -- for this text's walks alone
--import Derived.WalkSpells
set_option maxRecDepth 100000 in
set_option maxHeartbeats 4000000 in
theorem clone_calls (A : Option Addr) (c : Nat) (l : List Int) (w : World) (hr : Kd.C (Kd.int .u8) w A l.length l) (hc : l.length ≤ c) (hl : l.length ≤ 1099511627776) :
  Calls Try.prog 172 #[.slice A l.length c] w fun e w' => ∃ v : Value, e = .returned v ∧ Kd.R (Kd.int .u8) 5 w' w.heap.size (fun _ => True) v l ∧ Below w.heap.size w w' := by
 cases A with
 | none =>
  have h0 : l = [] := by
   cases l with
   | nil => rfl
   | cons x l =>
    obtain ⟨ad, e, _⟩ := Kd.at_int hr 0 (by omega) (by simp)
    cases e
  subst h0
  clear hr hc hl
  have he := eql_slice_nil (P := Try.prog) w 22 5 none 0 c 0 0 Try.underlying22
  go_enter Try.func172, Try.ntmps172
  go_wp2
  go_ret
  exact ⟨_, rfl, Kd.R_nil _ _ _ _ _, Below.refl _ _⟩
 | some ad =>
  have HR := zA hr
  have HC := zA hc
  clear hr hc
  have he := eql_slice_nil (P := Try.prog) w 22 5 (some ad) l.length c 0 0 Try.underlying22
  go_enter Try.func172, Try.ntmps172
  go_wp2_with (first | ((with_reducible refine gate_dst (N := 5) rfl ?_); refine Kd.R_lit (w0 := w) (Kd.int .u8) w.heap.size 5 ?hg (N := 5) ?hd (xs := ([] : List Int)) (inner := []) (ok := fun _ => True) (okp := fun _ => True) ?hr ?hp (fun _ hk => hk) trivial (Below.refl _ _) (Nat.le_refl _) (by simp) ?_; (case hd => rfl); (case hg => rfl); (case hr => first | (go_simp; done) | (go_simp; rfl)); (case hp => exact (Reps.none _ _)); intro v5 W1 ho hb hg_ hnew_; have HO := zA ho; have HB := zA hb; clear ho hb hg_ hnew_) | ((with_reducible refine gate_builtin (b := .append) (xs := #[.tmp 5, .tmp 6]) rfl ?_); at_builtin; refine Kd.R_append_rows (Kd.int .u8) (w0 := w) w.heap.size rfl (.tmp 5) (.tmp 6) 22 5 (.int .u8 0) 1 rfl Try.underlying22 info5 rfl (by decide) (by omega) _ [] l _ _ _ (fun _ => True) (fun _ => False) rfl rfl HO.out (Kd.C_below HR.out HB.out) (fun _ _ h => h) (fun _ h => h.elim) (fun _ _ => trivial) HB.out HB.out.size (by simp; omega) ?_; intro v7 w3 ho hb hg hat; have HO3 := zA ho; have HB3 := zA hb; clear ho hb hg hat))
  go_ret
  exact ⟨_, rfl, HO3.out, HB3.out⟩
end Go.Proofs.Ytilimpjcdeeaiaa.G


namespace Go.Proofs.Ytilimpjcdeeaiaa.G
open Go.RowKit Go.Proofs.YtilimpjcdeeaiaaW.PrintWords Go.Proofs.YtilimpjcdeeaiaaW.PrintLast Go.Proofs.YtilimpjcdeeaiaaW.PrintMore
attribute [local go_sem] max2_int min2_int max_two min_two max_three min_three max_four min_four   -- for this text's walks alone
theorem or_byte (q x : Int) (h0 : 0 ≤ q) (h1 : q ≤ 65536) (hx0 : 0 ≤ x) (hx1 : x ≤ 255) : Go.bits .or .i64 (q * 256) x = q * 256 + x :=
 bits_join .i64 62 (by decide) (fun n h0 h1 => by rw [IntKind.wrap_i64]; omega) 8 (q * 256) x (by omega) (by omega) (by omega) hx0 (by omega) (by omega)
end Go.Proofs.Ytilimpjcdeeaiaa.G


namespace Go.Proofs.Ytilimpjcdeeaiaa.G
open Go.RowKit Go.Proofs.YtilimpjcdeeaiaaW.PrintWords Go.Proofs.YtilimpjcdeeaiaaW.PrintLast Go.Proofs.YtilimpjcdeeaiaaW.PrintMore
attribute [local go_sem] max2_int min2_int max_two min_two max_three min_three max_four min_four   -- for this text's walks alone
--import Derived.BigRegion
--import Derived.Deep.CutRange
--import Derived.Deep.RegionHeld3
--import Derived.Deep.CutBlock
--import Derived.Deep.RegionLaw
def SegK (w0 W : World) (g gq : Nat) (A : Option Addr) (c : Nat) (b : List Int) (at_ : Nat) (l : List S177) : Prop :=
 Below w0.heap.size w0 W ∧ ∃ v, W.heap[g]? = some (.cells #[.slice A b.length c, .int .i64 (at_ : Int), v] 182 (0, 0)) ∧ Kd.S k177 177 W w0.heap.size (fun _ => True) v l ∧ W.heap[gq]? = some (.cells #[.int .i64 0, .int .i64 0] 82 (0, 0))
theorem SegK.fin {w0 W : World} {g gq gr : Nat} {A : Option Addr} {c : Nat} {b : List Int} {at_ : Nat} {l : List S177} (h : SegK w0 W g gq A c b at_ l) {x y : Value} (hr : W.heap[gr]? = some (.cells #[x, y] 82 (0, 0))) (hne : g ≠ gr) (hqr : gq ≠ gr) (hg : w0.heap.size ≤ gr) (C P : Value) :
  SegK w0 ((W.setCell ⟨gr, 0, none⟩ C).setCell ⟨gr, 1, none⟩ P) g gq A c b at_ l ∧ ((W.setCell ⟨gr, 0, none⟩ C).setCell ⟨gr, 1, none⟩ P).heap[gr]? = some (.cells #[C, P] 82 (0, 0)) := by
 obtain ⟨h1, v, h2, h3, h4⟩ := h
 refine ⟨⟨zE (zE h1 hg) hg, v, blk_far (blk_far h2 hne _) hne _, ?_, blk_far (blk_far h4 hqr _) hqr _⟩, ?_⟩
 ·exact yB (yC (p := ⟨gr, 1, none⟩) (yC (p := ⟨gr, 0, none⟩) (Kd.S_types h3 hr (by decide)) (fun k hk => hk.2) _) (fun k hk => hk.2) _) (fun _ _ => trivial)
 ·exact blk_set (blk_set hr 0 C) 1 P
theorem SegK.drewN {w0 W : World} {g gq : Nat} {A : Option Addr} {c : Nat} {b : List Int} {at_ : Nat} {l : List S177} (h : SegK w0 W g gq A c b at_ l) (n : Nat) : SegK w0 (W.drewN n) g gq A c b at_ l := by
 obtain ⟨h1, v, h2, h3, h4⟩ := h
 exact ⟨zB h1 n, v, h2, zZ h3 n, h4⟩
theorem SegK.drew {w0 W : World} {g gq : Nat} {A : Option Addr} {c : Nat} {b : List Int} {at_ : Nat} {l : List S177} (h : SegK w0 W g gq A c b at_ l) : SegK w0 W.drew g gq A c b at_ l := by
 obtain ⟨h1, v, h2, h3, h4⟩ := h
 exact ⟨below_drew h1, v, h2, yA h3, h4⟩
theorem SegK.at_ {w0 W : World} {g gq : Nat} {A : Option Addr} {c : Nat} {b : List Int} {at_ : Nat} {l : List S177} (h : SegK w0 W g gq A c b at_ l) (hg : w0.heap.size ≤ g) (hqg : gq ≠ g) (n : Nat) : SegK w0 (W.setCell ⟨g, 1, none⟩ (.int .i64 (n : Int))) g gq A c b n l := by
 obtain ⟨h1, v, h2, h3, h4⟩ := h
 exact ⟨zE h1 hg, v, blk_set h2 1 _, Kd.S_set h3 h2 (by decide) 1 _, blk_far h4 hqg _⟩
theorem S_ok2 {α : Type} {d : Kd α} {e base : Nat} {w : World} {ok : Nat → Prop} {v : Value} {xs : List α} (h : Kd.S d e w base ok v xs) : ∀ k, v.ownBlock = some k → ok k := by
 obtain ⟨f, h0, _⟩ := h
 exact h0
theorem last_rd (l : List S177) (h : 0 < l.length) (h2 : l.length ≤ 300) : rd_T177 l (wrap64 ((l.length : Int) - 1)) = l.getLast (List.ne_nil_of_length_pos h) := by
 rw [wrap_in _ (by omega) (by omega)]
 unfold rd_T177
 rw [show ((l.length : Int) - 1).toNat = l.length - 1 by omega, List.getLast_eq_getElem]
 simp [show l.length - 1 < l.length by omega]
theorem mayRun_val (l : List S177) (h : l.length ≤ 300) : impl_mayRun.f l = some (mayRunM l) := by
 unfold impl_mayRun.f mayRunM
 by_cases hl : 0 < l.length
 ·rw [if_pos (by omega), if_pos (by rw [wrap_in _ (by omega) (by omega)]; omega), if_pos (by rw [wrap_in _ (by omega) (by omega)]; omega), last_rd l hl h, List.getLast?_eq_some_getLast (List.ne_nil_of_length_pos hl)]
 ·have : l = [] := List.eq_nil_of_length_eq_zero (by omega)
  subst this
  rfl
theorem mayRest_val (l : List S177) (h : l.length ≤ 300) : impl_mayRestart.f l = some (mayRestM l) := by
 unfold impl_mayRestart.f mayRestM
 by_cases hl : 0 < l.length
 ·rw [if_pos (by omega), if_pos (by rw [wrap_in _ (by omega) (by omega)]; omega), if_pos (by rw [wrap_in _ (by omega) (by omega)]; omega), last_rd l hl h, List.getLast?_eq_some_getLast (List.ne_nil_of_length_pos hl)]
 ·have : l = [] := List.eq_nil_of_length_eq_zero (by omega)
  subst this
  rfl
theorem isRest_val (m : Int) : impl_isRestart.f m = some (isRest m) := by
 unfold impl_isRestart.f isRest
 rw [impl_within.val]
 rfl
set_option maxRecDepth 100000 in
set_option maxHeartbeats 4000000 in
theorem next_calls_a (w0 W : World) (g gq : Nat) (A : Option Addr) (c : Nat) (b : List Int) (at_ : Nat) (l : List S177) (h : SegK w0 W g gq A c b at_ l) (hg : w0.heap.size ≤ g) (hqg : gq ≠ g) (hC : Kd.C (Kd.int .u8) w0 A b.length b) (hc : b.length ≤ c) (hat : at_ ≤ b.length) (hlen : b.length ≤ 60000) (hB : ∀ x ∈ b, 0 ≤ x ∧ x ≤ 255) (hl : l.length ≤ 300) (hE : ¬ (¬ (b.drop at_ = [] ∨ b.drop at_ = [255]) ∧ markM (b.drop at_) ≠ 254 ∧ badM (markM (b.drop at_)) l = false ∧ l.length ≠ 300)) :
  Calls Try.prog 163 #[.pointer (some ⟨g, 0, none⟩)] W fun e w' => e = .returned (.tuple #[.bool (nxt b at_ l).1, .agg #[.int .i64 (nxt b at_ l).2.1, .int .i64 (nxt b at_ l).2.2.1]]) ∧ SegK w0 w' g gq A c b (nxt b at_ l).2.2.2.1 (nxt b at_ l).2.2.2.2 := by
 obtain ⟨hbel, v, hk, hS, hq⟩ := h
 have HQ := zA hq
 have k0 := zK hk 0
 have k1 := zK hk 1
 have k2 := zK hk 2
 simp at k0 k1 k2
 obtain ⟨Al, cl, el⟩ := Kd.S_slice hS
 subst el
 have HBEL := zA hbel
 have HK := zA hk
 have HS := zA hS
 have HCB := zA hC
 have HCC := zA hc
 have HBB := zA hB
 have hatc : at_ ≤ c := by omega
 have HE := zA hE
 clear hE
 clear hbel hk hS hC hB hq
 obtain ⟨R, hR⟩ : ∃ R, R = nxt b at_ l := ⟨_, rfl⟩
 rw [← hR]
 have HRR := zA hR
 clear hR
 go_enter Try.func163, Try.ntmps163
 go_upto_region 1 with (fail)
 have hr := blk_new W (Obj.cells #[.int .i64 0, .int .i64 0] 82)
 have HK1 := zA (zD HK.out (Obj.cells #[.int .i64 0, .int .i64 0] 82))
 have HS1 := zA (zY HS.out (Obj.cells #[.int .i64 0, .int .i64 0] 82))
 have HB1 := zA (zC HBEL.out (Obj.cells #[.int .i64 0, .int .i64 0] 82))
 have hgr : g ≠ W.heap.size := by have := blk_lt HK.out; omega
 have hqr : gq ≠ W.heap.size := by have := blk_lt HQ.out; omega
 have HQ1 := zA (zD HQ.out (Obj.cells #[.int .i64 0, .int .i64 0] 82))
 have hgw : w0.heap.size ≤ W.heap.size := HBEL.out.size
 generalize W.heap.size = gr at hr hgr hqr hgw ⊢
 generalize W.alloc (Obj.cells #[.int .i64 0, .int .i64 0] 82) = W1 at hr HK1 HS1 HB1 HQ1 ⊢
 clear k0 k1 k2 HK HS HBEL HQ
 have k0 := zK HK1.out 0
 have k1 := zK HK1.out 1
 have k2 := zK HK1.out 2
 simp at k0 k1 k2
 have HR := zA hr
 clear hr
 go_wp2
 go_quiet (fail)
 go_upto_block 0 with (fail)
 obtain ⟨rest, hrest⟩ : ∃ rest, rest = b.drop at_ := ⟨_, rfl⟩
 have hrl : b.length - at_ = rest.length := by rw [hrest, zR]
 have hrc : Kd.C (Kd.int .u8) w0 (if c = at_ then A else A.map (·.add at_)) rest.length rest := by
  have h9 := Kd.C_drop HCB.out hat HCC.out
  rw [show (Kd.int IntKind.u8).sz = 1 from rfl] at h9
  simp only [Nat.mul_one] at h9
  rw [hrest]
  exact h9
 rw [hrl]
 generalize (if c = at_ then A else Option.map (fun x => x.add at_) A) = Ar at hrc ⊢
 have hrcc : rest.length ≤ c - at_ := by rw [← hrl]; omega
 have HRC := zA hrc
 have HRCC := zA hrcc
 have HREST := zA hrest
 have HRL := zA hrl
 have HRB := zA (show ∀ x ∈ rest, 0 ≤ x ∧ x ≤ 255 from fun x hx => HBB.out x (by rw [hrest] at hx; exact List.mem_of_mem_drop hx))
 have HSG : Aside0 (SegK w0 (W1.drewN nq) g gq A c b at_ l) := ⟨zB HB1.out nq, _, HK1.out, zZ HS1.out nq, HQ1.out⟩
 have HR2 : Aside0 ((W1.drewN nq).heap[gr]? = some (.cells #[.int .i64 0, .int .i64 0] 82 (0, 0))) := ⟨HR.out⟩
 have HRC1 := zA (Kd.C_below hrc HSG.out.1)
 generalize hcr : c - at_ = cr at HRCC ⊢
 generalize W1.drewN nq = W2 at HSG HR2 HRC1 ⊢
 clear hrest hrl hrc hrcc HK1 HS1 HB1 HQ1 HR k0 k1 k2 hcr
 have j0 : W2.cell? ⟨g, 0, none⟩ = some (.slice A b.length c) := by obtain ⟨_, v, h2, _⟩ := HSG.out; exact zK h2 0
 have j1 : W2.cell? ⟨g, 1, none⟩ = some (.int .i64 (at_ : Int)) := by obtain ⟨_, v, h2, _⟩ := HSG.out; exact zK h2 1
 have r0 : W2.cell? ⟨gr, 0, none⟩ = some (.int .i64 0) := zK HR2.out 0
 have r1 : W2.cell? ⟨gr, 1, none⟩ = some (.int .i64 0) := zK HR2.out 1
 have f0 : W2.frozen? ⟨gr, 0, none⟩ = false := zJ HR2.out 0
 have f1 : W2.frozen? ⟨gr, 1, none⟩ = false := zJ HR2.out 1
 by_cases hend : rest = [] ∨ rest = [255]
 ·have hRe : R = (false, 3, (b.length : Int), at_, l) := by rw [HRR.out, nxt, ← HREST.out, if_pos hend]
  subst hRe
  rcases hend with he | he
  ·subst he
   go_wp2
   go_region
   go_wp2
   obtain ⟨e1_, e2_⟩ := SegK.fin HSG.out HR2.out hgr hqr hgw (.int .i64 3) (.int .i64 b.length)
   refine bodyPost_ret (results_list (rs := [.tmp 2, .cell 3 82]) rfl (by simp) (.tmp (.cell gr 82 #[.int .i64 3, .int .i64 b.length] (0, 0) _ rfl (by exact e2_) Try.underlying82 rfl (by kernel_rfl) .nil))) rfl ?_
   exact ⟨rfl, by first | exact e1_.drew | exact e1_⟩
  ·subst he
   obtain ⟨ad, q1, hx⟩ := Kd.at_int HRC1.out 0 (by omega) (by simp)
   cases q1
   rw [show (0 : Int).toNat = 0 from rfl, Addr.add_zero', show rd [255] 0 = 255 from rfl] at hx
   go_wp2
   go_region
   go_wp2
   obtain ⟨e1_, e2_⟩ := SegK.fin HSG.out HR2.out hgr hqr hgw (.int .i64 3) (.int .i64 b.length)
   refine bodyPost_ret (results_list (rs := [.tmp 2, .cell 3 82]) rfl (by simp) (.tmp (.cell gr 82 #[.int .i64 3, .int .i64 b.length] (0, 0) _ rfl (by exact e2_) Try.underlying82 rfl (by kernel_rfl) .nil))) rfl ?_
   exact ⟨rfl, by first | exact e1_.drew | exact e1_⟩
 ·have hne : rest ≠ [] := fun e => hend (.inl e)
  have hlr : 0 < rest.length := List.length_pos_iff.2 hne
  obtain ⟨ad, q1, hx0⟩ := Kd.at_int HRC1.out 0 (by omega) (by omega)
  cases q1
  rw [show (0 : Int).toNat = 0 from rfl, Addr.add_zero'] at hx0
  have hx1 : 1 < rest.length → W2.cell? ⟨ad.block, ad.off + 1, none⟩ = some (.int .u8 (rd rest 1)) := fun h => by
   obtain ⟨ad', q2, hx⟩ := Kd.at_int HRC1.out 1 (by omega) (by omega)
   cases q2
   have e := add_field ad 0 1 (by omega)
   rw [Nat.zero_add, Addr.add_zero'] at e
   rw [show (1 : Int).toNat = 1 from rfl, e] at hx
   exact hx
  have HX1 := zA hx1
  obtain ⟨b0, hb0⟩ : ∃ b0, b0 = rd rest 0 := ⟨_, rfl⟩
  obtain ⟨b1, hb1⟩ : ∃ b1, b1 = rd rest 1 := ⟨_, rfl⟩
  obtain ⟨m, hm⟩ : ∃ m, m = markM rest := ⟨_, rfl⟩
  have hm2 : m = if b0 ≠ 255 ∨ b1 = 0 then 0 else b1 := by rw [hm, markM, hb0, hb1]
  have hb0r : 0 ≤ b0 ∧ b0 ≤ 255 := by
   rw [hb0]; cases rest with
   | nil => simp at hlr
   | cons x t => exact HRB.out x List.mem_cons_self
  have hb1r : 0 ≤ b1 ∧ b1 ≤ 255 := by
   rw [hb1]; match rest with
   | [] => simp [rd]
   | [x] => simp [rd]
   | x :: y :: t => exact HRB.out y (by simp)
  have hone : rest.length = 1 → b0 ≠ 255 := by
   intro h e
   obtain ⟨x, rfl⟩ := List.length_eq_one_iff.1 h
   exact hend (.inr (by rw [← e, hb0]; rfl))
  rw [← hb0] at hx0
  have hR3 : R = if m = 254 then (true, 0, 0, at_ + 2, l) else if badM m l then (false, 4, (at_ : Int), at_, l) else if l.length = 300 then (false, 6, (at_ : Int), at_, l)
    else if m = 0 then (if 20000 < (un rest).1.length then (false, 5, (at_ : Int), at_, l) else (false, 0, 0, at_ + (un rest).2, l ++ [⟨0, (un rest).1⟩]))
    else if isRest m then (false, 0, 0, at_ + 2, l ++ [⟨m, []⟩]) else if rest.length < 4 then (false, 3, (b.length : Int), at_, l) else if 20000 < lenM rest then (false, 5, (at_ : Int), at_, l)
    else if (rest.length : Int) < 4 + lenM rest then (false, 3, (b.length : Int), at_, l) else (false, 0, 0, at_ + 4 + (lenM rest).toNat, l ++ [⟨m, (rest.drop 4).take (lenM rest).toNat⟩]) := by
   rw [HRR.out, nxt, ← HREST.out, if_neg hend, ← hm]
  have HR3 := zA hR3
  have HB1E := zA hb1
  have hmr : 0 ≤ m ∧ m ≤ 255 := by rw [hm2]; split <;> omega
  have HE2 := zA (show ¬ (¬ (rest = [] ∨ rest = [255]) ∧ m ≠ 254 ∧ badM m l = false ∧ l.length ≠ 300) from by rw [hm, HREST.out]; exact HE.out)
  have HM2 := zA hm2
  have HMM := zA hm
  have HEND := zA hend
  clear hx1 hb0 hb1 hm hm2 hR3 hend hne HRR
  go_cut [6] from 11 (fun v6 wx => v6 = .int .i64 m ∧ wx = W2)
  case first =>
   have z0 : ((rest.length : Int) == 0) = false := by rw [beq_eq_false_iff_ne]; omega
   by_cases h255 : b0 = 255
   ·have h1 : 1 < rest.length := by
     rcases Nat.lt_or_ge 1 rest.length with h | h
     ·exact h
     ·exact absurd h255 (hone (by omega))
    have z1 : ((rest.length : Int) == 1) = false := by rw [beq_eq_false_iff_ne]; omega
    have hx1 := HX1.out h1
    rw [← show b1 = rd rest 1 from HB1E.out] at hx1
    subst h255
    by_cases hz : b1 = 0
    ·subst hz
     have hmz : m = 0 := by rw [HM2.out]; simp
     subst hmz
     go_wp2
     go_meet
     case rel => exact ⟨rfl, rfl⟩
    ·have hmz : m = b1 := by rw [HM2.out]; simp [hz]
     subst hmz
     go_wp2
     go_meet
     case rel => exact ⟨by first | rfl | (congr 1; omega), rfl⟩
   ·have hmz : m = 0 := by rw [HM2.out]; simp [h255]
    subst hmz
    have z2 : (b0 == 255) = false := by simp [h255]
    by_cases h1 : rest.length = 1
    ·have z1 : ((rest.length : Int) == 1) = true := by simp [h1]
     clear h1
     go_wp2
     go_meet
     case rel => exact ⟨rfl, rfl⟩
    ·have z1 : ((rest.length : Int) == 1) = false := by rw [beq_eq_false_iff_ne]; omega
     go_wp2
     go_meet
     case rel => exact ⟨rfl, rfl⟩
  case rest =>
   obtain ⟨rfl, rfl⟩ := hcut
   by_cases h254 : m = 254
   ·have hRe : R = (true, 0, 0, at_ + 2, l) := by rw [HR3.out, if_pos h254]
    subst hRe
    subst h254
    have fg1 : wc.frozen? ⟨g, 1, none⟩ = false := by obtain ⟨_, v, h2, _⟩ := HSG.out; exact zJ h2 1
    go_wp2
    have hsg2 := HSG.out.at_ hg hqg (at_ + 2)
    have hr2 := blk_far HR2.out (p := ⟨g, 1, none⟩) (fun e => hgr e.symm) (.int .i64 ((at_ + 2 : Nat) : Int))
    obtain ⟨e1_, e2_⟩ := SegK.fin hsg2 hr2 hgr hqr hgw (.int .i64 0) (.int .i64 0)
    refine bodyPost_ret (results_list (rs := [.tmp 2, .cell 3 82]) rfl (by simp) (.tmp (.cell gr 82 #[.int .i64 0, .int .i64 0] (0, 0) _ rfl (by exact e2_) Try.underlying82 rfl (by kernel_rfl) .nil))) rfl ?_
    exact ⟨rfl, by first | exact e1_.drew | exact e1_⟩
   ·have hz254 : (m == 254) = false := by simp [h254]
    obtain ⟨_, v2, hk2, hs2, _⟩ := HSG.out
    obtain ⟨Al2, cl2, e2⟩ := Kd.S_slice hs2
    subst e2
    have j2 := zK hk2 2
    simp at j2
    have HSR := Kd.S_reads' hs2
    have HSC := zA HSR.2.2
    have HSL := zA HSR.2.1
    have HK2 := zA hk2
    have HS2 := zA hs2
    have HMR := zA (mayRun_val l hl)
    have HMS := zA (mayRest_val l hl)
    have HIR := zA (isRest_val m)
    clear hk2 hs2 HSR
    have hR4 : R = if badM m l then (false, 4, (at_ : Int), at_, l) else if l.length = 300 then (false, 6, (at_ : Int), at_, l)
      else if m = 0 then (if 20000 < (un rest).1.length then (false, 5, (at_ : Int), at_, l) else (false, 0, 0, at_ + (un rest).2, l ++ [⟨0, (un rest).1⟩]))
      else if isRest m then (false, 0, 0, at_ + 2, l ++ [⟨m, []⟩]) else if rest.length < 4 then (false, 3, (b.length : Int), at_, l) else if 20000 < lenM rest then (false, 5, (at_ : Int), at_, l)
      else if (rest.length : Int) < 4 + lenM rest then (false, 3, (b.length : Int), at_, l) else (false, 0, 0, at_ + 4 + (lenM rest).toNat, l ++ [⟨m, (rest.drop 4).take (lenM rest).toNat⟩]) := by
     rw [HR3.out, if_neg h254]
    have HR4 := zA hR4
    clear hR4 HR3
    go_upto_block 1 with (fail)
    go_cut [] from 11 (fun wx => Aside0 (SegK w0 wx g gq A c b at_ l) ∧ Aside0 (wx.heap[gr]? = some (.cells #[.int .i64 0, .int .i64 0] 82 (0, 0))) ∧ Aside0 (badM m l = false) ∧ l.length ≠ 300)
    case first =>
     by_cases h247 : 247 < m
     ·have hbad : badM m l = true := by simp [badM, h247]
      have hRe : R = (false, 4, (at_ : Int), at_, l) := by rw [HR4.out, if_pos hbad]
      subst hRe
      clear hbad
      go_wp2
      obtain ⟨e1_, e2_⟩ := SegK.fin HSG.out HR2.out hgr hqr hgw (.int .i64 4) (.int .i64 at_)
      refine bodyPost_ret (results_list (rs := [.tmp 2, .cell 3 82]) rfl (by simp) (.tmp (.cell gr 82 #[.int .i64 4, .int .i64 at_] (0, 0) _ rfl (by exact e2_) Try.underlying82 rfl (by kernel_rfl) .nil))) rfl ?_
      exact ⟨rfl, by first | exact e1_.drew | exact e1_⟩
     ·by_cases hm0 : m = 0
      ·subst hm0
       cases hmr : mayRunM l with
       | false =>
        have hbad : badM 0 l = true := by simp [badM, hmr]
        have hRe : R = (false, 4, (at_ : Int), at_, l) := by rw [HR4.out, if_pos hbad]
        subst hRe
        rw [hmr] at HMR
        clear hbad hmr
        go_wp2_with fail
        refine (impl_mayRun.calls Al2 cl2 l false _ (yF HSC.out 0) HSL.out HMR.out).mono ?_
        rintro e_ w_ ⟨rfl, ⟨n1, rfl⟩⟩
        go_wp2
        obtain ⟨e1_, e2_⟩ := SegK.fin (HSG.out.drewN (n1)) (show (wc.drewN (n1)).heap[gr]? = some (.cells #[.int .i64 0, .int .i64 0] 82 (0, 0)) from HR2.out) hgr hqr hgw (.int .i64 4) (.int .i64 at_)
        refine bodyPost_ret (results_list (rs := [.tmp 2, .cell 3 82]) rfl (by simp) (.tmp (.cell gr 82 #[.int .i64 4, .int .i64 at_] (0, 0) _ rfl (by exact e2_) Try.underlying82 rfl (by kernel_rfl) .nil))) rfl ?_
        exact ⟨rfl, by first | exact e1_.drew | exact e1_⟩
       | true =>
        have hbad : badM 0 l = false := by simp [badM, hmr, isRest]
        have HBAD := zA hbad
        have hir0 : isRest 0 = false := by decide
        rw [hmr] at HMR
        rw [hir0] at HIR
        clear hbad hmr hir0
        go_wp2_with fail
        refine (impl_mayRun.calls Al2 cl2 l true _ (yF HSC.out 0) HSL.out HMR.out).mono ?_
        rintro e_ w_ ⟨rfl, ⟨n1, rfl⟩⟩
        go_wp2_with fail
        refine (impl_isRestart.calls 0 false _ HIR.out).mono ?_
        rintro e_ w_ ⟨rfl, ⟨n2, rfl⟩⟩
        by_cases h300 : l.length = 300
        ·have hRe : R = (false, 6, (at_ : Int), at_, l) := by rw [HR4.out, HBAD.out, if_neg (by decide), if_pos h300]
         subst hRe
         have h3b : ((l.length : Int) == 300) = true := by rw [beq_iff_eq]; omega
         clear h300
         go_wp2
         obtain ⟨e1_, e2_⟩ := SegK.fin (HSG.out.drewN (n1 + n2)) (show (wc.drewN (n1 + n2)).heap[gr]? = some (.cells #[.int .i64 0, .int .i64 0] 82 (0, 0)) from HR2.out) hgr hqr hgw (.int .i64 6) (.int .i64 at_)
         refine bodyPost_ret (results_list (rs := [.tmp 2, .cell 3 82]) rfl (by simp) (.tmp (.cell gr 82 #[.int .i64 6, .int .i64 at_] (0, 0) _ rfl (by exact e2_) Try.underlying82 rfl (by kernel_rfl) .nil))) rfl ?_
         exact ⟨rfl, by first | exact e1_.drew | exact e1_⟩
        ·have h3b : ((l.length : Int) == 300) = false := by rw [beq_eq_false_iff_ne]; omega
         go_wp2
         go_meet
         case rel => exact ⟨⟨HSG.out.drewN _⟩, ⟨HR2.out⟩, HBAD, h300⟩
      ·have hm0b : (m == 0) = false := by simp [hm0]
       cases hir : isRest m with
       | false =>
        have hbad : badM m l = false := by simp [badM, h247, hm0, hir]
        have HBAD := zA hbad
        rw [hir] at HIR
        clear hbad hir
        go_wp2_with fail
        refine (impl_isRestart.calls m false _ HIR.out).mono ?_
        rintro e_ w_ ⟨rfl, ⟨n2, rfl⟩⟩
        by_cases h300 : l.length = 300
        ·have hRe : R = (false, 6, (at_ : Int), at_, l) := by rw [HR4.out, HBAD.out, if_neg (by decide), if_pos h300]
         subst hRe
         have h3b : ((l.length : Int) == 300) = true := by rw [beq_iff_eq]; omega
         clear h300
         go_wp2
         obtain ⟨e1_, e2_⟩ := SegK.fin (HSG.out.drewN (n2)) (show (wc.drewN (n2)).heap[gr]? = some (.cells #[.int .i64 0, .int .i64 0] 82 (0, 0)) from HR2.out) hgr hqr hgw (.int .i64 6) (.int .i64 at_)
         refine bodyPost_ret (results_list (rs := [.tmp 2, .cell 3 82]) rfl (by simp) (.tmp (.cell gr 82 #[.int .i64 6, .int .i64 at_] (0, 0) _ rfl (by exact e2_) Try.underlying82 rfl (by kernel_rfl) .nil))) rfl ?_
         exact ⟨rfl, by first | exact e1_.drew | exact e1_⟩
        ·have h3b : ((l.length : Int) == 300) = false := by rw [beq_eq_false_iff_ne]; omega
         go_wp2
         go_meet
         case rel => exact ⟨⟨HSG.out.drewN _⟩, ⟨HR2.out⟩, HBAD, h300⟩
       | true =>
        cases hmr : mayRestM l with
        | false =>
         have hbad : badM m l = true := by simp [badM, hir, hmr]
         have hRe : R = (false, 4, (at_ : Int), at_, l) := by rw [HR4.out, if_pos hbad]
         subst hRe
         rw [hir] at HIR
         rw [hmr] at HMS
         clear hbad hir hmr
         go_wp2_with fail
         refine (impl_isRestart.calls m true _ HIR.out).mono ?_
         rintro e_ w_ ⟨rfl, ⟨n2, rfl⟩⟩
         go_wp2_with fail
         refine (impl_mayRestart.calls Al2 cl2 l false _ (yF HSC.out _) HSL.out HMS.out).mono ?_
         rintro e_ w_ ⟨rfl, ⟨n3, rfl⟩⟩
         go_wp2
         obtain ⟨e1_, e2_⟩ := SegK.fin (HSG.out.drewN (n2 + n3)) (show (wc.drewN (n2 + n3)).heap[gr]? = some (.cells #[.int .i64 0, .int .i64 0] 82 (0, 0)) from HR2.out) hgr hqr hgw (.int .i64 4) (.int .i64 at_)
         refine bodyPost_ret (results_list (rs := [.tmp 2, .cell 3 82]) rfl (by simp) (.tmp (.cell gr 82 #[.int .i64 4, .int .i64 at_] (0, 0) _ rfl (by exact e2_) Try.underlying82 rfl (by kernel_rfl) .nil))) rfl ?_
         exact ⟨rfl, by first | exact e1_.drew | exact e1_⟩
        | true =>
         have hbad : badM m l = false := by simp [badM, h247, hm0, hmr]
         have HBAD := zA hbad
         rw [hir] at HIR
         rw [hmr] at HMS
         clear hbad hir hmr
         go_wp2_with fail
         refine (impl_isRestart.calls m true _ HIR.out).mono ?_
         rintro e_ w_ ⟨rfl, ⟨n2, rfl⟩⟩
         go_wp2_with fail
         refine (impl_mayRestart.calls Al2 cl2 l true _ (yF HSC.out _) HSL.out HMS.out).mono ?_
         rintro e_ w_ ⟨rfl, ⟨n3, rfl⟩⟩
         by_cases h300 : l.length = 300
         ·have hRe : R = (false, 6, (at_ : Int), at_, l) := by rw [HR4.out, HBAD.out, if_neg (by decide), if_pos h300]
          subst hRe
          have h3b : ((l.length : Int) == 300) = true := by rw [beq_iff_eq]; omega
          clear h300
          go_wp2
          obtain ⟨e1_, e2_⟩ := SegK.fin (HSG.out.drewN (n2 + n3)) (show (wc.drewN (n2 + n3)).heap[gr]? = some (.cells #[.int .i64 0, .int .i64 0] 82 (0, 0)) from HR2.out) hgr hqr hgw (.int .i64 6) (.int .i64 at_)
          refine bodyPost_ret (results_list (rs := [.tmp 2, .cell 3 82]) rfl (by simp) (.tmp (.cell gr 82 #[.int .i64 6, .int .i64 at_] (0, 0) _ rfl (by exact e2_) Try.underlying82 rfl (by kernel_rfl) .nil))) rfl ?_
          exact ⟨rfl, by first | exact e1_.drew | exact e1_⟩
         ·have h3b : ((l.length : Int) == 300) = false := by rw [beq_eq_false_iff_ne]; omega
          go_wp2
          go_meet
          case rel => exact ⟨⟨HSG.out.drewN _⟩, ⟨HR2.out⟩, HBAD, h300⟩
    case rest =>
     obtain ⟨HSG3, HRF, HBAD, h300⟩ := hcut
     exact absurd ⟨HEND.out, h254, HBAD.out, h300⟩ HE2.out
set_option maxRecDepth 100000 in
set_option maxHeartbeats 4000000 in
theorem next_calls_b1 (w0 W : World) (g gq : Nat) (A : Option Addr) (c : Nat) (b : List Int) (at_ : Nat) (l : List S177) (h : SegK w0 W g gq A c b at_ l) (hg : w0.heap.size ≤ g) (hqg : gq ≠ g) (hC : Kd.C (Kd.int .u8) w0 A b.length b) (hc : b.length ≤ c) (hat : at_ ≤ b.length) (hlen : b.length ≤ 60000) (hB : ∀ x ∈ b, 0 ≤ x ∧ x ≤ 255) (hl : l.length ≤ 300) (hE : (¬ (b.drop at_ = [] ∨ b.drop at_ = [255]) ∧ markM (b.drop at_) ≠ 254 ∧ badM (markM (b.drop at_)) l = false ∧ l.length ≠ 300)) (hK : markM (b.drop at_) = 0) :
  Calls Try.prog 163 #[.pointer (some ⟨g, 0, none⟩)] W fun e w' => e = .returned (.tuple #[.bool (nxt b at_ l).1, .agg #[.int .i64 (nxt b at_ l).2.1, .int .i64 (nxt b at_ l).2.2.1]]) ∧ SegK w0 w' g gq A c b (nxt b at_ l).2.2.2.1 (nxt b at_ l).2.2.2.2 := by
 obtain ⟨hbel, v, hk, hS, hq⟩ := h
 have HQ := zA hq
 have k0 := zK hk 0
 have k1 := zK hk 1
 have k2 := zK hk 2
 simp at k0 k1 k2
 obtain ⟨Al, cl, el⟩ := Kd.S_slice hS
 subst el
 have HBEL := zA hbel
 have HK := zA hk
 have HS := zA hS
 have HCB := zA hC
 have HCC := zA hc
 have HBB := zA hB
 have hatc : at_ ≤ c := by omega
 have HE := zA hE
 have HKK := zA hK
 clear hE hK
 clear hbel hk hS hC hB hq
 obtain ⟨R, hR⟩ : ∃ R, R = nxt b at_ l := ⟨_, rfl⟩
 rw [← hR]
 have HRR := zA hR
 clear hR
 go_enter Try.func163, Try.ntmps163
 go_upto_region 1 with (fail)
 have hr := blk_new W (Obj.cells #[.int .i64 0, .int .i64 0] 82)
 have HK1 := zA (zD HK.out (Obj.cells #[.int .i64 0, .int .i64 0] 82))
 have HS1 := zA (zY HS.out (Obj.cells #[.int .i64 0, .int .i64 0] 82))
 have HB1 := zA (zC HBEL.out (Obj.cells #[.int .i64 0, .int .i64 0] 82))
 have hgr : g ≠ W.heap.size := by have := blk_lt HK.out; omega
 have hqr : gq ≠ W.heap.size := by have := blk_lt HQ.out; omega
 have HQ1 := zA (zD HQ.out (Obj.cells #[.int .i64 0, .int .i64 0] 82))
 have hgw : w0.heap.size ≤ W.heap.size := HBEL.out.size
 generalize W.heap.size = gr at hr hgr hqr hgw ⊢
 generalize W.alloc (Obj.cells #[.int .i64 0, .int .i64 0] 82) = W1 at hr HK1 HS1 HB1 HQ1 ⊢
 clear k0 k1 k2 HK HS HBEL HQ
 have k0 := zK HK1.out 0
 have k1 := zK HK1.out 1
 have k2 := zK HK1.out 2
 simp at k0 k1 k2
 have HR := zA hr
 clear hr
 go_wp2
 go_quiet (fail)
 go_upto_block 0 with (fail)
 obtain ⟨rest, hrest⟩ : ∃ rest, rest = b.drop at_ := ⟨_, rfl⟩
 have hrl : b.length - at_ = rest.length := by rw [hrest, zR]
 have hrc : Kd.C (Kd.int .u8) w0 (if c = at_ then A else A.map (·.add at_)) rest.length rest := by
  have h9 := Kd.C_drop HCB.out hat HCC.out
  rw [show (Kd.int IntKind.u8).sz = 1 from rfl] at h9
  simp only [Nat.mul_one] at h9
  rw [hrest]
  exact h9
 rw [hrl]
 generalize (if c = at_ then A else Option.map (fun x => x.add at_) A) = Ar at hrc ⊢
 have hrcc : rest.length ≤ c - at_ := by rw [← hrl]; omega
 have HRC := zA hrc
 have HRCC := zA hrcc
 have HREST := zA hrest
 have HRL := zA hrl
 have HRB := zA (show ∀ x ∈ rest, 0 ≤ x ∧ x ≤ 255 from fun x hx => HBB.out x (by rw [hrest] at hx; exact List.mem_of_mem_drop hx))
 have HSG : Aside0 (SegK w0 (W1.drewN nq) g gq A c b at_ l) := ⟨zB HB1.out nq, _, HK1.out, zZ HS1.out nq, HQ1.out⟩
 have HR2 : Aside0 ((W1.drewN nq).heap[gr]? = some (.cells #[.int .i64 0, .int .i64 0] 82 (0, 0))) := ⟨HR.out⟩
 have HRC1 := zA (Kd.C_below hrc HSG.out.1)
 generalize hcr : c - at_ = cr at HRCC ⊢
 generalize W1.drewN nq = W2 at HSG HR2 HRC1 ⊢
 clear hrest hrl hrc hrcc HK1 HS1 HB1 HQ1 HR k0 k1 k2 hcr
 have j0 : W2.cell? ⟨g, 0, none⟩ = some (.slice A b.length c) := by obtain ⟨_, v, h2, _⟩ := HSG.out; exact zK h2 0
 have j1 : W2.cell? ⟨g, 1, none⟩ = some (.int .i64 (at_ : Int)) := by obtain ⟨_, v, h2, _⟩ := HSG.out; exact zK h2 1
 have r0 : W2.cell? ⟨gr, 0, none⟩ = some (.int .i64 0) := zK HR2.out 0
 have r1 : W2.cell? ⟨gr, 1, none⟩ = some (.int .i64 0) := zK HR2.out 1
 have f0 : W2.frozen? ⟨gr, 0, none⟩ = false := zJ HR2.out 0
 have f1 : W2.frozen? ⟨gr, 1, none⟩ = false := zJ HR2.out 1
 by_cases hend : rest = [] ∨ rest = [255]
 ·exact absurd hend (by rw [HREST.out]; exact HE.out.1)
 ·have hne : rest ≠ [] := fun e => hend (.inl e)
  have hlr : 0 < rest.length := List.length_pos_iff.2 hne
  obtain ⟨ad, q1, hx0⟩ := Kd.at_int HRC1.out 0 (by omega) (by omega)
  cases q1
  rw [show (0 : Int).toNat = 0 from rfl, Addr.add_zero'] at hx0
  have hx1 : 1 < rest.length → W2.cell? ⟨ad.block, ad.off + 1, none⟩ = some (.int .u8 (rd rest 1)) := fun h => by
   obtain ⟨ad', q2, hx⟩ := Kd.at_int HRC1.out 1 (by omega) (by omega)
   cases q2
   have e := add_field ad 0 1 (by omega)
   rw [Nat.zero_add, Addr.add_zero'] at e
   rw [show (1 : Int).toNat = 1 from rfl, e] at hx
   exact hx
  have HX1 := zA hx1
  obtain ⟨b0, hb0⟩ : ∃ b0, b0 = rd rest 0 := ⟨_, rfl⟩
  obtain ⟨b1, hb1⟩ : ∃ b1, b1 = rd rest 1 := ⟨_, rfl⟩
  obtain ⟨m, hm⟩ : ∃ m, m = markM rest := ⟨_, rfl⟩
  have hm2 : m = if b0 ≠ 255 ∨ b1 = 0 then 0 else b1 := by rw [hm, markM, hb0, hb1]
  have hb0r : 0 ≤ b0 ∧ b0 ≤ 255 := by
   rw [hb0]; cases rest with
   | nil => simp at hlr
   | cons x t => exact HRB.out x List.mem_cons_self
  have hb1r : 0 ≤ b1 ∧ b1 ≤ 255 := by
   rw [hb1]; match rest with
   | [] => simp [rd]
   | [x] => simp [rd]
   | x :: y :: t => exact HRB.out y (by simp)
  have hone : rest.length = 1 → b0 ≠ 255 := by
   intro h e
   obtain ⟨x, rfl⟩ := List.length_eq_one_iff.1 h
   exact hend (.inr (by rw [← e, hb0]; rfl))
  rw [← hb0] at hx0
  have hR3 : R = if m = 254 then (true, 0, 0, at_ + 2, l) else if badM m l then (false, 4, (at_ : Int), at_, l) else if l.length = 300 then (false, 6, (at_ : Int), at_, l)
    else if m = 0 then (if 20000 < (un rest).1.length then (false, 5, (at_ : Int), at_, l) else (false, 0, 0, at_ + (un rest).2, l ++ [⟨0, (un rest).1⟩]))
    else if isRest m then (false, 0, 0, at_ + 2, l ++ [⟨m, []⟩]) else if rest.length < 4 then (false, 3, (b.length : Int), at_, l) else if 20000 < lenM rest then (false, 5, (at_ : Int), at_, l)
    else if (rest.length : Int) < 4 + lenM rest then (false, 3, (b.length : Int), at_, l) else (false, 0, 0, at_ + 4 + (lenM rest).toNat, l ++ [⟨m, (rest.drop 4).take (lenM rest).toNat⟩]) := by
   rw [HRR.out, nxt, ← HREST.out, if_neg hend, ← hm]
  have HR3 := zA hR3
  have HB1E := zA hb1
  have hmr : 0 ≤ m ∧ m ≤ 255 := by rw [hm2]; split <;> omega
  have HE2 := zA (show (¬ (rest = [] ∨ rest = [255]) ∧ m ≠ 254 ∧ badM m l = false ∧ l.length ≠ 300) from by rw [hm, HREST.out]; exact HE.out)
  have HKM := zA (show m = 0 from by rw [hm, HREST.out]; exact HKK.out)
  have HM2 := zA hm2
  have HMM := zA hm
  have HEND := zA hend
  clear hx1 hb0 hb1 hm hm2 hR3 hend hne HRR
  go_cut [6] from 11 (fun v6 wx => v6 = .int .i64 m ∧ wx = W2)
  case first =>
   have z0 : ((rest.length : Int) == 0) = false := by rw [beq_eq_false_iff_ne]; omega
   by_cases h255 : b0 = 255
   ·have h1 : 1 < rest.length := by
     rcases Nat.lt_or_ge 1 rest.length with h | h
     ·exact h
     ·exact absurd h255 (hone (by omega))
    have z1 : ((rest.length : Int) == 1) = false := by rw [beq_eq_false_iff_ne]; omega
    have hx1 := HX1.out h1
    rw [← show b1 = rd rest 1 from HB1E.out] at hx1
    subst h255
    by_cases hz : b1 = 0
    ·subst hz
     have hmz : m = 0 := by rw [HM2.out]; simp
     subst hmz
     go_wp2
     go_meet
     case rel => exact ⟨rfl, rfl⟩
    ·have hmz : m = b1 := by rw [HM2.out]; simp [hz]
     subst hmz
     go_wp2
     go_meet
     case rel => exact ⟨by first | rfl | (congr 1; omega), rfl⟩
   ·have hmz : m = 0 := by rw [HM2.out]; simp [h255]
    subst hmz
    have z2 : (b0 == 255) = false := by simp [h255]
    by_cases h1 : rest.length = 1
    ·have z1 : ((rest.length : Int) == 1) = true := by simp [h1]
     clear h1
     go_wp2
     go_meet
     case rel => exact ⟨rfl, rfl⟩
    ·have z1 : ((rest.length : Int) == 1) = false := by rw [beq_eq_false_iff_ne]; omega
     go_wp2
     go_meet
     case rel => exact ⟨rfl, rfl⟩
  case rest =>
   obtain ⟨rfl, rfl⟩ := hcut
   by_cases h254 : m = 254
   ·exact absurd h254 HE2.out.2.1
   ·have hz254 : (m == 254) = false := by simp [h254]
    obtain ⟨_, v2, hk2, hs2, _⟩ := HSG.out
    obtain ⟨Al2, cl2, e2⟩ := Kd.S_slice hs2
    subst e2
    have j2 := zK hk2 2
    simp at j2
    have HSR := Kd.S_reads' hs2
    have HSC := zA HSR.2.2
    have HSL := zA HSR.2.1
    have HK2 := zA hk2
    have HS2 := zA hs2
    have HMR := zA (mayRun_val l hl)
    have HMS := zA (mayRest_val l hl)
    have HIR := zA (isRest_val m)
    clear hk2 hs2 HSR
    have hR4 : R = if badM m l then (false, 4, (at_ : Int), at_, l) else if l.length = 300 then (false, 6, (at_ : Int), at_, l)
      else if m = 0 then (if 20000 < (un rest).1.length then (false, 5, (at_ : Int), at_, l) else (false, 0, 0, at_ + (un rest).2, l ++ [⟨0, (un rest).1⟩]))
      else if isRest m then (false, 0, 0, at_ + 2, l ++ [⟨m, []⟩]) else if rest.length < 4 then (false, 3, (b.length : Int), at_, l) else if 20000 < lenM rest then (false, 5, (at_ : Int), at_, l)
      else if (rest.length : Int) < 4 + lenM rest then (false, 3, (b.length : Int), at_, l) else (false, 0, 0, at_ + 4 + (lenM rest).toNat, l ++ [⟨m, (rest.drop 4).take (lenM rest).toNat⟩]) := by
     rw [HR3.out, if_neg h254]
    have HR4 := zA hR4
    clear hR4 HR3
    go_upto_block 1 with (fail)
    go_cut [] from 11 (fun wx => Aside0 (SegK w0 wx g gq A c b at_ l) ∧ Aside0 (wx.heap[gr]? = some (.cells #[.int .i64 0, .int .i64 0] 82 (0, 0))) ∧ Aside0 (badM m l = false) ∧ l.length ≠ 300)
    case first =>
     by_cases h247 : 247 < m
     ·exact absurd HE2.out.2.2.1 (by simp [badM, h247])
     ·by_cases hm0 : m = 0
      ·subst hm0
       cases hmr : mayRunM l with
       | false =>
        exact absurd HE2.out.2.2.1 (by simp [badM, hmr])
       | true =>
        have hbad : badM 0 l = false := by simp [badM, hmr, isRest]
        have HBAD := zA hbad
        have hir0 : isRest 0 = false := by decide
        rw [hmr] at HMR
        rw [hir0] at HIR
        clear hbad hmr hir0
        go_wp2_with fail
        refine (impl_mayRun.calls Al2 cl2 l true _ (yF HSC.out 0) HSL.out HMR.out).mono ?_
        rintro e_ w_ ⟨rfl, ⟨n1, rfl⟩⟩
        go_wp2_with fail
        refine (impl_isRestart.calls 0 false _ HIR.out).mono ?_
        rintro e_ w_ ⟨rfl, ⟨n2, rfl⟩⟩
        by_cases h300 : l.length = 300
        ·exact absurd h300 HE2.out.2.2.2
        ·have h3b : ((l.length : Int) == 300) = false := by rw [beq_eq_false_iff_ne]; omega
         go_wp2
         go_meet
         case rel => exact ⟨⟨HSG.out.drewN _⟩, ⟨HR2.out⟩, HBAD, h300⟩
      ·have hm0b : (m == 0) = false := by simp [hm0]
       cases hir : isRest m with
       | false =>
        have hbad : badM m l = false := by simp [badM, h247, hm0, hir]
        have HBAD := zA hbad
        rw [hir] at HIR
        clear hbad hir
        go_wp2_with fail
        refine (impl_isRestart.calls m false _ HIR.out).mono ?_
        rintro e_ w_ ⟨rfl, ⟨n2, rfl⟩⟩
        by_cases h300 : l.length = 300
        ·exact absurd h300 HE2.out.2.2.2
        ·have h3b : ((l.length : Int) == 300) = false := by rw [beq_eq_false_iff_ne]; omega
         go_wp2
         go_meet
         case rel => exact ⟨⟨HSG.out.drewN _⟩, ⟨HR2.out⟩, HBAD, h300⟩
       | true =>
        cases hmr : mayRestM l with
        | false =>
         exact absurd HE2.out.2.2.1 (by simp [badM, hir, hmr])
        | true =>
         have hbad : badM m l = false := by simp [badM, h247, hm0, hmr]
         have HBAD := zA hbad
         rw [hir] at HIR
         rw [hmr] at HMS
         clear hbad hir hmr
         go_wp2_with fail
         refine (impl_isRestart.calls m true _ HIR.out).mono ?_
         rintro e_ w_ ⟨rfl, ⟨n2, rfl⟩⟩
         go_wp2_with fail
         refine (impl_mayRestart.calls Al2 cl2 l true _ (yF HSC.out _) HSL.out HMS.out).mono ?_
         rintro e_ w_ ⟨rfl, ⟨n3, rfl⟩⟩
         by_cases h300 : l.length = 300
         ·exact absurd h300 HE2.out.2.2.2
         ·have h3b : ((l.length : Int) == 300) = false := by rw [beq_eq_false_iff_ne]; omega
          go_wp2
          go_meet
          case rel => exact ⟨⟨HSG.out.drewN _⟩, ⟨HR2.out⟩, HBAD, h300⟩
    case rest =>
     obtain ⟨HSG3, HRF, HBAD, h300⟩ := hcut
     have hR5 : R = if m = 0 then (if 20000 < (un rest).1.length then (false, 5, (at_ : Int), at_, l) else (false, 0, 0, at_ + (un rest).2, l ++ [⟨0, (un rest).1⟩]))
       else if isRest m then (false, 0, 0, at_ + 2, l ++ [⟨m, []⟩]) else if rest.length < 4 then (false, 3, (b.length : Int), at_, l) else if 20000 < lenM rest then (false, 5, (at_ : Int), at_, l)
       else if (rest.length : Int) < 4 + lenM rest then (false, 3, (b.length : Int), at_, l) else (false, 0, 0, at_ + 4 + (lenM rest).toNat, l ++ [⟨m, (rest.drop 4).take (lenM rest).toNat⟩]) := by
      rw [HR4.out, HBAD.out, if_neg (by decide), if_neg h300]
     have HR5 := zA hR5
     clear hR5 HR4 HSG HR2 HRC1 j0 j1 r0 r1 f0 f1 hx0 j2 HSC HSL HK2 HS2 HMR HMS hz254
     go_upto_block 2 with (fail)
     obtain ⟨hb3, v3, hk3, hs3, hq3⟩ := HSG3.out
     obtain ⟨Al3, cl3, e3⟩ := Kd.S_slice hs3
     subst e3
     have kb := blk_new wc (Obj.cells #[.int .i64 m, .slice none 0 0] 177)
     have KG := zA (zD hk3 (Obj.cells #[.int .i64 m, .slice none 0 0] 177))
     have KQ := zA (zD hq3 (Obj.cells #[.int .i64 m, .slice none 0 0] 177))
     have hsq : gq < wc.heap.size := blk_lt hq3
     have KR := zA (zD HRF.out (Obj.cells #[.int .i64 m, .slice none 0 0] 177))
     have HB6 := zA (zC hb3 (Obj.cells #[.int .i64 m, .slice none 0 0] 177))
     have HS6 := zA (yB (ok' := fun k => k < wc.heap.size) (zY (Kd.S_bound hs3) (Obj.cells #[.int .i64 m, .slice none 0 0] 177)) (fun k hk => hk.2.2.1))
     have hsg : g < wc.heap.size := blk_lt hk3
     have hsr : gr < wc.heap.size := blk_lt HRF.out
     have hs0 : w0.heap.size ≤ wc.heap.size := hb3.size
     have hW6s : (wc.alloc (Obj.cells #[.int .i64 m, .slice none 0 0] 177)).heap.size = wc.heap.size + 1 := yD ..
     have HRC6 := zA (Kd.C_below HRC.out HB6.out)
     generalize wc.heap.size = gs at kb HS6 hsg hsr hsq hs0 hW6s ⊢
     generalize wc.alloc (Obj.cells #[.int .i64 m, .slice none 0 0] 177) = W6 at kb KG KR KQ HB6 HS6 hW6s HRC6 ⊢
     have KB := zA kb
     have HW6 := zA hW6s
     clear hb3 hk3 hs3 hq3 HSG3 HRF kb hW6s
     go_cut [] from 11 (fun wx => ∃ (n2 : Nat) (d : List Int) (vd : Value), Aside0 (R = (false, 0, 0, n2, l ++ [⟨m, d⟩])) ∧ Aside0 (wx.heap[gs]? = some (.cells #[.int .i64 m, vd] 177 (0, 0))) ∧ Aside0 (wx.heap[g]? = some (.cells #[.slice A b.length c, .int .i64 (n2 : Int), .slice Al3 l.length cl3] 182 (0, 0))) ∧ Aside0 (wx.heap[gr]? = some (.cells #[.int .i64 0, .int .i64 0] 82 (0, 0))) ∧ Aside0 (wx.heap[gq]? = some (.cells #[.int .i64 0, .int .i64 0] 82 (0, 0))) ∧
      Aside0 (Below w0.heap.size w0 wx) ∧ Aside0 (Kd.S k177 177 wx w0.heap.size (fun k => k < gs) (.slice Al3 l.length cl3) l) ∧ Aside0 (Kd.R (Kd.int .u8) 5 wx w0.heap.size (fun k => gs < k) vd d))
     case first =>
      have s0 := zK KG.out 0
      have s1 := zK KG.out 1
      simp at s0 s1
      have t0 := zK KR.out 0
      have t1 := zK KR.out 1
      simp at t0 t1
      have q0 := zJ KR.out 0
      have q1 := zJ KR.out 1
      have q2 := zJ KG.out 1
      have q3 := zJ KB.out 1
      have b1c := zK KB.out 1
      simp at b1c
      by_cases hm0 : m = 0
      ·subst hm0
       obtain ⟨ku, hku⟩ := (un_impl rest (by have := HRL.out; omega)).rounds
       have HUN := zA hku
       have hule := un_le rest
       have hul1 := un_len rest
       obtain ⟨us, hus⟩ : ∃ us, us = (un rest).2 := ⟨_, rfl⟩
       obtain ⟨dd, hdd⟩ : ∃ dd, dd = (un rest).1 := ⟨_, rfl⟩
       have hR6 : R = if 20000 < dd.length then (false, 5, (at_ : Int), at_, l) else (false, 0, 0, at_ + us, l ++ [⟨0, dd⟩]) := by rw [HR5.out, if_pos rfl, hus, hdd]
       rw [← hus, ← hdd] at HUN
       rw [← hus] at hule
       rw [← hdd] at hul1
       have HR6 := zA hR6
       have hrl2 : rest.length ≤ 60000 := by have := HRL.out; omega
       clear hku hus hdd hR6
       go_wp2_with fail
       refine (impl_Unstuff.calls ku (some ad) cr rest dd (us : Int) _ HRC6.out HRCC.out HUN.out).mono ?_
       rintro e_ w2 ⟨vd, rfl, hd, hb2⟩
       obtain ⟨Ad, cd, ed⟩ := Kd.R_slice hd
       subst ed
       have HD := zA (zP (ok' := fun k => gs < k) (Kd.R_lower (Kd.R_bound hd) (show w0.heap.size ≤ W6.heap.size by have := HW6.out; omega)) (fun k hk => by have h1 := hk.2.1; have h2 := HW6.out; omega))
       have KG2 := zA (blk_below KG.out hb2)
       have KR2 := zA (blk_below KR.out hb2)
       have KQ2 := zA (blk_below KQ.out hb2)
       have KB2 := zA (blk_below KB.out hb2)
       have HB7 := zA (Below.trans HB6.out (hb2.mono HB6.out.size))
       have HS7 := zA (Kd.S_below HS6.out hb2)
       clear hd hb2 s0 s1 t0 t1 q0 q1 q2 q3 b1c
       have t0 := zK KR2.out 0
       have t1 := zK KR2.out 1
       simp at t0 t1
       have s1 := zK KG2.out 1
       simp at s1
       have b1c := zK KB2.out 1
       simp at b1c
       have q0 := zJ KR2.out 0
       have q1 := zJ KR2.out 1
       have q2 := zJ KG2.out 1
       have q3 := zJ KB2.out 1
       by_cases h20 : 20000 < dd.length
       ·have hRe : R = (false, 5, (at_ : Int), at_, l) := by rw [HR6.out, if_pos h20]
        subst hRe
        have hseg : SegK w0 w2 g gq A c b at_ l := ⟨HB7.out, _, KG2.out, yB HS7.out (fun _ _ => trivial), KQ2.out⟩
        go_wp2
        obtain ⟨e1_, e2_⟩ := SegK.fin hseg KR2.out hgr hqr hgw (.int .i64 5) (.int .i64 at_)
        refine bodyPost_ret (results_list (rs := [.tmp 2, .cell 3 82]) rfl (by simp) (.tmp (.cell gr 82 #[.int .i64 5, .int .i64 at_] (0, 0) _ rfl (by exact e2_) Try.underlying82 rfl (by kernel_rfl) .nil))) rfl ?_
        exact ⟨rfl, by first | exact e1_.drew | exact e1_⟩
       ·have hRe : R = (false, 0, 0, at_ + us, l ++ [⟨0, dd⟩]) := by rw [HR6.out, if_neg h20]
        have HRE := zA hRe
        clear hRe
        have hnsg : ¬ gs = g := by omega
        have hngs : ¬ g = gs := by omega
        go_wp2
        go_meet
        case rel =>
         refine ⟨at_ + us, dd, .slice Ad dd.length cd, HRE, ⟨blk_far (blk_set KB2.out 1 _) (by show gs ≠ g; omega) _⟩, ⟨blk_set (blk_far KG2.out (by show g ≠ gs; omega) _) 1 _⟩, ⟨blk_far (blk_far KR2.out (by show gr ≠ gs; omega) _) (by show gr ≠ g; omega) _⟩, ⟨blk_far (blk_far KQ2.out (by show gq ≠ gs; omega) _) hqg _⟩, ⟨zE (zE HB7.out hs0) hg⟩, ⟨?_⟩, ⟨?_⟩⟩
         ·exact yB (yC (p := ⟨g, 1, none⟩) (yC (p := ⟨gs, 1, none⟩) (Kd.S_types HS7.out KG2.out (by decide)) (fun k hk => by show k ≠ gs; have := hk.1; omega) _) (fun k hk => hk.2) _) (fun k hk => hk.1)
         ·exact zP (Kd.R_far (p := ⟨g, 1, none⟩) (Kd.R_far (p := ⟨gs, 1, none⟩) (zX HD.out KG2.out (by decide)) (fun k hk => by show k ≠ gs; have := hk.1; omega) _) (fun k hk => hk.2) _) (fun k hk => hk.1)
      ·exact absurd HKM.out hm0
     case rest =>
      obtain ⟨n2, d, vd, HRE, KB9, KG9, KR9, KQ9, HB9, HS9, HD9⟩ := hcut
      have hRe := HRE.out
      subst hRe
      obtain ⟨Ad, cd, ed⟩ := Kd.R_slice HD9.out
      subst ed
      have s0 := zK KG9.out 0
      have s2 := zK KG9.out 2
      simp at s0 s2
      have q4 := zJ KG9.out 2
      have b0c := zK KB9.out 0
      have b1c := zK KB9.out 1
      simp at b0c b1c
      have t0 := zK KR9.out 0
      have t1 := zK KR9.out 1
      simp at t0 t1
      have s2a : ∀ o : Obj, (wc.alloc o).cell? ⟨g, 2, none⟩ = some (.slice Al3 l.length cl3) := fun o => (World.cell?_alloc_lt _ _ _ (blk_lt KG9.out)).trans s2
      have b0a : ∀ o : Obj, (wc.alloc o).cell? ⟨gs, 0, none⟩ = some (.int .i64 m) := fun o => (World.cell?_alloc_lt _ _ _ (blk_lt KB9.out)).trans b0c
      have b1a : ∀ o : Obj, (wc.alloc o).cell? ⟨gs, 1, none⟩ = some (.slice Ad d.length cd) := fun o => (World.cell?_alloc_lt _ _ _ (blk_lt KB9.out)).trans b1c
      have HOK := zA (show ∀ k, gs < k → True ∧ some k ≠ (Value.slice Al3 l.length cl3).ownBlock from fun k hk => ⟨trivial, fun e => absurd (S_ok2 HS9.out k e.symm) (by omega)⟩)
      have HO9 := zA (yB (ok' := fun k => True ∧ ¬ gs < k) HS9.out (fun k hk => ⟨trivial, by omega⟩))
      clear HRE
      go_upto_region 31 with (fail)
      go_region_law (refine Kd.S_append_step k177 (w0 := w0) (W := wc.drew) w0.heap.size (by rfl) (.tmp 195) (.tmp 197) 170 177 (.agg #[.int .i64 0, .slice none 0 0]) 32 (by rfl) Try.underlying170 info177 (by rfl) (by decide) (by decide) (.slice Al3 l.length cl3) l ⟨m, d⟩ [.int .i64 m, .slice Ad d.length cd] (fun _ => True) (fun k => gs < k) (by rfl) (by rfl) (k177_mkM _ _ _ _ (zO HD9.out)) HOK.out (fun _ _ => trivial) (yA HO9.out) (below_drew HB9.out) HB9.out.size (by omega) ?_; intro v8 w3 ho hb hg_ hat; obtain ⟨A8, c8, e8⟩ := Kd.S_slice ho; subst e8; have HO3 := zA ho; have HB3 := zA hb; have HG3 := zA hg_; clear ho hb hg_ hat; have i1 := blk_grown (w := wc.drew) KG9.out HG3.out (Kd.S_ne (yA HS9.out) KG9.out (by decide)); have i2 := blk_grown (w := wc.drew) KR9.out HG3.out (Kd.S_ne (yA HS9.out) KR9.out (by decide)); have d3 := zK i1 2; simp at d3; have e3 := zJ i1 2; have I1 := zA i1; have I2 := zA i2; have I3 := zA (blk_grown (w := wc.drew) KQ9.out HG3.out (Kd.S_ne (yA HS9.out) KQ9.out (by decide))); clear i1 i2)
      all_goals
       have hl1 : (l ++ [(⟨m, d⟩ : S177)]).length = l.length + 1 := by simp
       have ho3 := HO3.out
       rw [hl1] at ho3
       have hseg : SegK w0 (w3.setCell ⟨g, 2, none⟩ (.slice A8 (l.length + 1) c8)) g gq A c b n2 (l ++ [⟨m, d⟩]) := ⟨zE HB3.out hg, _, blk_set I1.out 2 _, Kd.S_set ho3 I1.out (by decide) 2 _, blk_far I3.out hqg _⟩
       have hr9 := blk_far I2.out (p := ⟨g, 2, none⟩) (fun e => hgr e.symm) (.slice A8 (l.length + 1) c8)
       have HSEG := zA hseg
       have HR9 := zA hr9
       clear hseg hr9 ho3 hl1
       generalize w3.setCell ⟨g, 2, none⟩ (.slice A8 (l.length + 1) c8) = W9 at HSEG HR9 ⊢
       have u0 := zK HR9.out 0
       have u1 := zK HR9.out 1
       simp at u0 u1
       have u2 := zJ HR9.out 0
       have u3 := zJ HR9.out 1
       go_wp2
       obtain ⟨e1_, e2_⟩ := SegK.fin HSEG.out HR9.out hgr hqr hgw (.int .i64 0) (.int .i64 0)
       refine bodyPost_ret (results_list (rs := [.tmp 2, .cell 3 82]) rfl (by simp) (.tmp (.cell gr 82 #[.int .i64 0, .int .i64 0] (0, 0) _ rfl (by exact e2_) Try.underlying82 rfl (by kernel_rfl) .nil))) rfl ?_
       exact ⟨rfl, by first | exact e1_.drew | exact e1_⟩
set_option maxRecDepth 100000 in
set_option maxHeartbeats 4000000 in
theorem next_calls_b2 (w0 W : World) (g gq : Nat) (A : Option Addr) (c : Nat) (b : List Int) (at_ : Nat) (l : List S177) (h : SegK w0 W g gq A c b at_ l) (hg : w0.heap.size ≤ g) (hqg : gq ≠ g) (hC : Kd.C (Kd.int .u8) w0 A b.length b) (hc : b.length ≤ c) (hat : at_ ≤ b.length) (hlen : b.length ≤ 60000) (hB : ∀ x ∈ b, 0 ≤ x ∧ x ≤ 255) (hl : l.length ≤ 300) (hE : (¬ (b.drop at_ = [] ∨ b.drop at_ = [255]) ∧ markM (b.drop at_) ≠ 254 ∧ badM (markM (b.drop at_)) l = false ∧ l.length ≠ 300)) (hK : markM (b.drop at_) ≠ 0 ∧ isRest (markM (b.drop at_)) = true) :
  Calls Try.prog 163 #[.pointer (some ⟨g, 0, none⟩)] W fun e w' => e = .returned (.tuple #[.bool (nxt b at_ l).1, .agg #[.int .i64 (nxt b at_ l).2.1, .int .i64 (nxt b at_ l).2.2.1]]) ∧ SegK w0 w' g gq A c b (nxt b at_ l).2.2.2.1 (nxt b at_ l).2.2.2.2 := by
 obtain ⟨hbel, v, hk, hS, hq⟩ := h
 have HQ := zA hq
 have k0 := zK hk 0
 have k1 := zK hk 1
 have k2 := zK hk 2
 simp at k0 k1 k2
 obtain ⟨Al, cl, el⟩ := Kd.S_slice hS
 subst el
 have HBEL := zA hbel
 have HK := zA hk
 have HS := zA hS
 have HCB := zA hC
 have HCC := zA hc
 have HBB := zA hB
 have hatc : at_ ≤ c := by omega
 have HE := zA hE
 have HKK := zA hK
 clear hE hK
 clear hbel hk hS hC hB hq
 obtain ⟨R, hR⟩ : ∃ R, R = nxt b at_ l := ⟨_, rfl⟩
 rw [← hR]
 have HRR := zA hR
 clear hR
 go_enter Try.func163, Try.ntmps163
 go_upto_region 1 with (fail)
 have hr := blk_new W (Obj.cells #[.int .i64 0, .int .i64 0] 82)
 have HK1 := zA (zD HK.out (Obj.cells #[.int .i64 0, .int .i64 0] 82))
 have HS1 := zA (zY HS.out (Obj.cells #[.int .i64 0, .int .i64 0] 82))
 have HB1 := zA (zC HBEL.out (Obj.cells #[.int .i64 0, .int .i64 0] 82))
 have hgr : g ≠ W.heap.size := by have := blk_lt HK.out; omega
 have hqr : gq ≠ W.heap.size := by have := blk_lt HQ.out; omega
 have HQ1 := zA (zD HQ.out (Obj.cells #[.int .i64 0, .int .i64 0] 82))
 have hgw : w0.heap.size ≤ W.heap.size := HBEL.out.size
 generalize W.heap.size = gr at hr hgr hqr hgw ⊢
 generalize W.alloc (Obj.cells #[.int .i64 0, .int .i64 0] 82) = W1 at hr HK1 HS1 HB1 HQ1 ⊢
 clear k0 k1 k2 HK HS HBEL HQ
 have k0 := zK HK1.out 0
 have k1 := zK HK1.out 1
 have k2 := zK HK1.out 2
 simp at k0 k1 k2
 have HR := zA hr
 clear hr
 go_wp2
 go_quiet (fail)
 go_upto_block 0 with (fail)
 obtain ⟨rest, hrest⟩ : ∃ rest, rest = b.drop at_ := ⟨_, rfl⟩
 have hrl : b.length - at_ = rest.length := by rw [hrest, zR]
 have hrc : Kd.C (Kd.int .u8) w0 (if c = at_ then A else A.map (·.add at_)) rest.length rest := by
  have h9 := Kd.C_drop HCB.out hat HCC.out
  rw [show (Kd.int IntKind.u8).sz = 1 from rfl] at h9
  simp only [Nat.mul_one] at h9
  rw [hrest]
  exact h9
 rw [hrl]
 generalize (if c = at_ then A else Option.map (fun x => x.add at_) A) = Ar at hrc ⊢
 have hrcc : rest.length ≤ c - at_ := by rw [← hrl]; omega
 have HRC := zA hrc
 have HRCC := zA hrcc
 have HREST := zA hrest
 have HRL := zA hrl
 have HRB := zA (show ∀ x ∈ rest, 0 ≤ x ∧ x ≤ 255 from fun x hx => HBB.out x (by rw [hrest] at hx; exact List.mem_of_mem_drop hx))
 have HSG : Aside0 (SegK w0 (W1.drewN nq) g gq A c b at_ l) := ⟨zB HB1.out nq, _, HK1.out, zZ HS1.out nq, HQ1.out⟩
 have HR2 : Aside0 ((W1.drewN nq).heap[gr]? = some (.cells #[.int .i64 0, .int .i64 0] 82 (0, 0))) := ⟨HR.out⟩
 have HRC1 := zA (Kd.C_below hrc HSG.out.1)
 generalize hcr : c - at_ = cr at HRCC ⊢
 generalize W1.drewN nq = W2 at HSG HR2 HRC1 ⊢
 clear hrest hrl hrc hrcc HK1 HS1 HB1 HQ1 HR k0 k1 k2 hcr
 have j0 : W2.cell? ⟨g, 0, none⟩ = some (.slice A b.length c) := by obtain ⟨_, v, h2, _⟩ := HSG.out; exact zK h2 0
 have j1 : W2.cell? ⟨g, 1, none⟩ = some (.int .i64 (at_ : Int)) := by obtain ⟨_, v, h2, _⟩ := HSG.out; exact zK h2 1
 have r0 : W2.cell? ⟨gr, 0, none⟩ = some (.int .i64 0) := zK HR2.out 0
 have r1 : W2.cell? ⟨gr, 1, none⟩ = some (.int .i64 0) := zK HR2.out 1
 have f0 : W2.frozen? ⟨gr, 0, none⟩ = false := zJ HR2.out 0
 have f1 : W2.frozen? ⟨gr, 1, none⟩ = false := zJ HR2.out 1
 by_cases hend : rest = [] ∨ rest = [255]
 ·exact absurd hend (by rw [HREST.out]; exact HE.out.1)
 ·have hne : rest ≠ [] := fun e => hend (.inl e)
  have hlr : 0 < rest.length := List.length_pos_iff.2 hne
  obtain ⟨ad, q1, hx0⟩ := Kd.at_int HRC1.out 0 (by omega) (by omega)
  cases q1
  rw [show (0 : Int).toNat = 0 from rfl, Addr.add_zero'] at hx0
  have hx1 : 1 < rest.length → W2.cell? ⟨ad.block, ad.off + 1, none⟩ = some (.int .u8 (rd rest 1)) := fun h => by
   obtain ⟨ad', q2, hx⟩ := Kd.at_int HRC1.out 1 (by omega) (by omega)
   cases q2
   have e := add_field ad 0 1 (by omega)
   rw [Nat.zero_add, Addr.add_zero'] at e
   rw [show (1 : Int).toNat = 1 from rfl, e] at hx
   exact hx
  have HX1 := zA hx1
  obtain ⟨b0, hb0⟩ : ∃ b0, b0 = rd rest 0 := ⟨_, rfl⟩
  obtain ⟨b1, hb1⟩ : ∃ b1, b1 = rd rest 1 := ⟨_, rfl⟩
  obtain ⟨m, hm⟩ : ∃ m, m = markM rest := ⟨_, rfl⟩
  have hm2 : m = if b0 ≠ 255 ∨ b1 = 0 then 0 else b1 := by rw [hm, markM, hb0, hb1]
  have hb0r : 0 ≤ b0 ∧ b0 ≤ 255 := by
   rw [hb0]; cases rest with
   | nil => simp at hlr
   | cons x t => exact HRB.out x List.mem_cons_self
  have hb1r : 0 ≤ b1 ∧ b1 ≤ 255 := by
   rw [hb1]; match rest with
   | [] => simp [rd]
   | [x] => simp [rd]
   | x :: y :: t => exact HRB.out y (by simp)
  have hone : rest.length = 1 → b0 ≠ 255 := by
   intro h e
   obtain ⟨x, rfl⟩ := List.length_eq_one_iff.1 h
   exact hend (.inr (by rw [← e, hb0]; rfl))
  rw [← hb0] at hx0
  have hR3 : R = if m = 254 then (true, 0, 0, at_ + 2, l) else if badM m l then (false, 4, (at_ : Int), at_, l) else if l.length = 300 then (false, 6, (at_ : Int), at_, l)
    else if m = 0 then (if 20000 < (un rest).1.length then (false, 5, (at_ : Int), at_, l) else (false, 0, 0, at_ + (un rest).2, l ++ [⟨0, (un rest).1⟩]))
    else if isRest m then (false, 0, 0, at_ + 2, l ++ [⟨m, []⟩]) else if rest.length < 4 then (false, 3, (b.length : Int), at_, l) else if 20000 < lenM rest then (false, 5, (at_ : Int), at_, l)
    else if (rest.length : Int) < 4 + lenM rest then (false, 3, (b.length : Int), at_, l) else (false, 0, 0, at_ + 4 + (lenM rest).toNat, l ++ [⟨m, (rest.drop 4).take (lenM rest).toNat⟩]) := by
   rw [HRR.out, nxt, ← HREST.out, if_neg hend, ← hm]
  have HR3 := zA hR3
  have HB1E := zA hb1
  have hmr : 0 ≤ m ∧ m ≤ 255 := by rw [hm2]; split <;> omega
  have HE2 := zA (show (¬ (rest = [] ∨ rest = [255]) ∧ m ≠ 254 ∧ badM m l = false ∧ l.length ≠ 300) from by rw [hm, HREST.out]; exact HE.out)
  have HKM := zA (show m ≠ 0 ∧ isRest m = true from by rw [hm, HREST.out]; exact HKK.out)
  have HM2 := zA hm2
  have HMM := zA hm
  have HEND := zA hend
  clear hx1 hb0 hb1 hm hm2 hR3 hend hne HRR
  go_cut [6] from 11 (fun v6 wx => v6 = .int .i64 m ∧ wx = W2)
  case first =>
   have z0 : ((rest.length : Int) == 0) = false := by rw [beq_eq_false_iff_ne]; omega
   by_cases h255 : b0 = 255
   ·have h1 : 1 < rest.length := by
     rcases Nat.lt_or_ge 1 rest.length with h | h
     ·exact h
     ·exact absurd h255 (hone (by omega))
    have z1 : ((rest.length : Int) == 1) = false := by rw [beq_eq_false_iff_ne]; omega
    have hx1 := HX1.out h1
    rw [← show b1 = rd rest 1 from HB1E.out] at hx1
    subst h255
    by_cases hz : b1 = 0
    ·subst hz
     have hmz : m = 0 := by rw [HM2.out]; simp
     subst hmz
     go_wp2
     go_meet
     case rel => exact ⟨rfl, rfl⟩
    ·have hmz : m = b1 := by rw [HM2.out]; simp [hz]
     subst hmz
     go_wp2
     go_meet
     case rel => exact ⟨by first | rfl | (congr 1; omega), rfl⟩
   ·have hmz : m = 0 := by rw [HM2.out]; simp [h255]
    subst hmz
    have z2 : (b0 == 255) = false := by simp [h255]
    by_cases h1 : rest.length = 1
    ·have z1 : ((rest.length : Int) == 1) = true := by simp [h1]
     clear h1
     go_wp2
     go_meet
     case rel => exact ⟨rfl, rfl⟩
    ·have z1 : ((rest.length : Int) == 1) = false := by rw [beq_eq_false_iff_ne]; omega
     go_wp2
     go_meet
     case rel => exact ⟨rfl, rfl⟩
  case rest =>
   obtain ⟨rfl, rfl⟩ := hcut
   by_cases h254 : m = 254
   ·exact absurd h254 HE2.out.2.1
   ·have hz254 : (m == 254) = false := by simp [h254]
    obtain ⟨_, v2, hk2, hs2, _⟩ := HSG.out
    obtain ⟨Al2, cl2, e2⟩ := Kd.S_slice hs2
    subst e2
    have j2 := zK hk2 2
    simp at j2
    have HSR := Kd.S_reads' hs2
    have HSC := zA HSR.2.2
    have HSL := zA HSR.2.1
    have HK2 := zA hk2
    have HS2 := zA hs2
    have HMR := zA (mayRun_val l hl)
    have HMS := zA (mayRest_val l hl)
    have HIR := zA (isRest_val m)
    clear hk2 hs2 HSR
    have hR4 : R = if badM m l then (false, 4, (at_ : Int), at_, l) else if l.length = 300 then (false, 6, (at_ : Int), at_, l)
      else if m = 0 then (if 20000 < (un rest).1.length then (false, 5, (at_ : Int), at_, l) else (false, 0, 0, at_ + (un rest).2, l ++ [⟨0, (un rest).1⟩]))
      else if isRest m then (false, 0, 0, at_ + 2, l ++ [⟨m, []⟩]) else if rest.length < 4 then (false, 3, (b.length : Int), at_, l) else if 20000 < lenM rest then (false, 5, (at_ : Int), at_, l)
      else if (rest.length : Int) < 4 + lenM rest then (false, 3, (b.length : Int), at_, l) else (false, 0, 0, at_ + 4 + (lenM rest).toNat, l ++ [⟨m, (rest.drop 4).take (lenM rest).toNat⟩]) := by
     rw [HR3.out, if_neg h254]
    have HR4 := zA hR4
    clear hR4 HR3
    go_upto_block 1 with (fail)
    go_cut [] from 11 (fun wx => Aside0 (SegK w0 wx g gq A c b at_ l) ∧ Aside0 (wx.heap[gr]? = some (.cells #[.int .i64 0, .int .i64 0] 82 (0, 0))) ∧ Aside0 (badM m l = false) ∧ l.length ≠ 300)
    case first =>
     by_cases h247 : 247 < m
     ·exact absurd HE2.out.2.2.1 (by simp [badM, h247])
     ·by_cases hm0 : m = 0
      ·subst hm0
       cases hmr : mayRunM l with
       | false =>
        exact absurd HE2.out.2.2.1 (by simp [badM, hmr])
       | true =>
        have hbad : badM 0 l = false := by simp [badM, hmr, isRest]
        have HBAD := zA hbad
        have hir0 : isRest 0 = false := by decide
        rw [hmr] at HMR
        rw [hir0] at HIR
        clear hbad hmr hir0
        go_wp2_with fail
        refine (impl_mayRun.calls Al2 cl2 l true _ (yF HSC.out 0) HSL.out HMR.out).mono ?_
        rintro e_ w_ ⟨rfl, ⟨n1, rfl⟩⟩
        go_wp2_with fail
        refine (impl_isRestart.calls 0 false _ HIR.out).mono ?_
        rintro e_ w_ ⟨rfl, ⟨n2, rfl⟩⟩
        by_cases h300 : l.length = 300
        ·exact absurd h300 HE2.out.2.2.2
        ·have h3b : ((l.length : Int) == 300) = false := by rw [beq_eq_false_iff_ne]; omega
         go_wp2
         go_meet
         case rel => exact ⟨⟨HSG.out.drewN _⟩, ⟨HR2.out⟩, HBAD, h300⟩
      ·have hm0b : (m == 0) = false := by simp [hm0]
       cases hir : isRest m with
       | false =>
        have hbad : badM m l = false := by simp [badM, h247, hm0, hir]
        have HBAD := zA hbad
        rw [hir] at HIR
        clear hbad hir
        go_wp2_with fail
        refine (impl_isRestart.calls m false _ HIR.out).mono ?_
        rintro e_ w_ ⟨rfl, ⟨n2, rfl⟩⟩
        by_cases h300 : l.length = 300
        ·exact absurd h300 HE2.out.2.2.2
        ·have h3b : ((l.length : Int) == 300) = false := by rw [beq_eq_false_iff_ne]; omega
         go_wp2
         go_meet
         case rel => exact ⟨⟨HSG.out.drewN _⟩, ⟨HR2.out⟩, HBAD, h300⟩
       | true =>
        cases hmr : mayRestM l with
        | false =>
         exact absurd HE2.out.2.2.1 (by simp [badM, hir, hmr])
        | true =>
         have hbad : badM m l = false := by simp [badM, h247, hm0, hmr]
         have HBAD := zA hbad
         rw [hir] at HIR
         rw [hmr] at HMS
         clear hbad hir hmr
         go_wp2_with fail
         refine (impl_isRestart.calls m true _ HIR.out).mono ?_
         rintro e_ w_ ⟨rfl, ⟨n2, rfl⟩⟩
         go_wp2_with fail
         refine (impl_mayRestart.calls Al2 cl2 l true _ (yF HSC.out _) HSL.out HMS.out).mono ?_
         rintro e_ w_ ⟨rfl, ⟨n3, rfl⟩⟩
         by_cases h300 : l.length = 300
         ·exact absurd h300 HE2.out.2.2.2
         ·have h3b : ((l.length : Int) == 300) = false := by rw [beq_eq_false_iff_ne]; omega
          go_wp2
          go_meet
          case rel => exact ⟨⟨HSG.out.drewN _⟩, ⟨HR2.out⟩, HBAD, h300⟩
    case rest =>
     obtain ⟨HSG3, HRF, HBAD, h300⟩ := hcut
     have hR5 : R = if m = 0 then (if 20000 < (un rest).1.length then (false, 5, (at_ : Int), at_, l) else (false, 0, 0, at_ + (un rest).2, l ++ [⟨0, (un rest).1⟩]))
       else if isRest m then (false, 0, 0, at_ + 2, l ++ [⟨m, []⟩]) else if rest.length < 4 then (false, 3, (b.length : Int), at_, l) else if 20000 < lenM rest then (false, 5, (at_ : Int), at_, l)
       else if (rest.length : Int) < 4 + lenM rest then (false, 3, (b.length : Int), at_, l) else (false, 0, 0, at_ + 4 + (lenM rest).toNat, l ++ [⟨m, (rest.drop 4).take (lenM rest).toNat⟩]) := by
      rw [HR4.out, HBAD.out, if_neg (by decide), if_neg h300]
     have HR5 := zA hR5
     clear hR5 HR4 HSG HR2 HRC1 j0 j1 r0 r1 f0 f1 hx0 j2 HSC HSL HK2 HS2 HMR HMS hz254
     go_upto_block 2 with (fail)
     obtain ⟨hb3, v3, hk3, hs3, hq3⟩ := HSG3.out
     obtain ⟨Al3, cl3, e3⟩ := Kd.S_slice hs3
     subst e3
     have kb := blk_new wc (Obj.cells #[.int .i64 m, .slice none 0 0] 177)
     have KG := zA (zD hk3 (Obj.cells #[.int .i64 m, .slice none 0 0] 177))
     have KQ := zA (zD hq3 (Obj.cells #[.int .i64 m, .slice none 0 0] 177))
     have hsq : gq < wc.heap.size := blk_lt hq3
     have KR := zA (zD HRF.out (Obj.cells #[.int .i64 m, .slice none 0 0] 177))
     have HB6 := zA (zC hb3 (Obj.cells #[.int .i64 m, .slice none 0 0] 177))
     have HS6 := zA (yB (ok' := fun k => k < wc.heap.size) (zY (Kd.S_bound hs3) (Obj.cells #[.int .i64 m, .slice none 0 0] 177)) (fun k hk => hk.2.2.1))
     have hsg : g < wc.heap.size := blk_lt hk3
     have hsr : gr < wc.heap.size := blk_lt HRF.out
     have hs0 : w0.heap.size ≤ wc.heap.size := hb3.size
     have hW6s : (wc.alloc (Obj.cells #[.int .i64 m, .slice none 0 0] 177)).heap.size = wc.heap.size + 1 := yD ..
     have HRC6 := zA (Kd.C_below HRC.out HB6.out)
     generalize wc.heap.size = gs at kb HS6 hsg hsr hsq hs0 hW6s ⊢
     generalize wc.alloc (Obj.cells #[.int .i64 m, .slice none 0 0] 177) = W6 at kb KG KR KQ HB6 HS6 hW6s HRC6 ⊢
     have KB := zA kb
     have HW6 := zA hW6s
     clear hb3 hk3 hs3 hq3 HSG3 HRF kb hW6s
     go_cut [] from 11 (fun wx => ∃ (n2 : Nat) (d : List Int) (vd : Value), Aside0 (R = (false, 0, 0, n2, l ++ [⟨m, d⟩])) ∧ Aside0 (wx.heap[gs]? = some (.cells #[.int .i64 m, vd] 177 (0, 0))) ∧ Aside0 (wx.heap[g]? = some (.cells #[.slice A b.length c, .int .i64 (n2 : Int), .slice Al3 l.length cl3] 182 (0, 0))) ∧ Aside0 (wx.heap[gr]? = some (.cells #[.int .i64 0, .int .i64 0] 82 (0, 0))) ∧ Aside0 (wx.heap[gq]? = some (.cells #[.int .i64 0, .int .i64 0] 82 (0, 0))) ∧
      Aside0 (Below w0.heap.size w0 wx) ∧ Aside0 (Kd.S k177 177 wx w0.heap.size (fun k => k < gs) (.slice Al3 l.length cl3) l) ∧ Aside0 (Kd.R (Kd.int .u8) 5 wx w0.heap.size (fun k => gs < k) vd d))
     case first =>
      have s0 := zK KG.out 0
      have s1 := zK KG.out 1
      simp at s0 s1
      have t0 := zK KR.out 0
      have t1 := zK KR.out 1
      simp at t0 t1
      have q0 := zJ KR.out 0
      have q1 := zJ KR.out 1
      have q2 := zJ KG.out 1
      have q3 := zJ KB.out 1
      have b1c := zK KB.out 1
      simp at b1c
      by_cases hm0 : m = 0
      ·exact absurd hm0 HKM.out.1
      ·have hm0b : (m == 0) = false := by simp [hm0]
       cases hir : isRest m with
       | true =>
        have hRe : R = (false, 0, 0, at_ + 2, l ++ [⟨m, []⟩]) := by rw [HR5.out, if_neg hm0, if_pos hir]
        have HRE := zA hRe
        rw [hir] at HIR
        clear hRe hir
        go_wp2_with fail
        refine (impl_isRestart.calls m true _ HIR.out).mono ?_
        rintro e_ w_ ⟨rfl, ⟨n2, rfl⟩⟩
        go_wp2
        go_meet
        case rel =>
         refine ⟨at_ + 2, [], .slice none 0 0, HRE, ⟨blk_far (w := W6.drewN n2) KB.out (by show gs ≠ g; omega) _⟩, ⟨blk_set (w := W6.drewN n2) KG.out 1 _⟩, ⟨blk_far (w := W6.drewN n2) KR.out (by show gr ≠ g; omega) _⟩, ⟨blk_far (w := W6.drewN n2) KQ.out hqg _⟩, ⟨zE (zB HB6.out n2) hg⟩, ⟨?_⟩, ⟨Kd.R_nil _ _ _ _ _⟩⟩
         exact yB (yC (p := ⟨g, 1, none⟩) (Kd.S_types (zZ HS6.out n2) (show (W6.drewN n2).heap[g]? = _ from KG.out) (by decide)) (fun k hk => hk.2) _) (fun k hk => hk.1)
       | false =>
        rw [HKM.out.2] at hir
        cases hir
     case rest =>
      obtain ⟨n2, d, vd, HRE, KB9, KG9, KR9, KQ9, HB9, HS9, HD9⟩ := hcut
      have hRe := HRE.out
      subst hRe
      obtain ⟨Ad, cd, ed⟩ := Kd.R_slice HD9.out
      subst ed
      have s0 := zK KG9.out 0
      have s2 := zK KG9.out 2
      simp at s0 s2
      have q4 := zJ KG9.out 2
      have b0c := zK KB9.out 0
      have b1c := zK KB9.out 1
      simp at b0c b1c
      have t0 := zK KR9.out 0
      have t1 := zK KR9.out 1
      simp at t0 t1
      have s2a : ∀ o : Obj, (wc.alloc o).cell? ⟨g, 2, none⟩ = some (.slice Al3 l.length cl3) := fun o => (World.cell?_alloc_lt _ _ _ (blk_lt KG9.out)).trans s2
      have b0a : ∀ o : Obj, (wc.alloc o).cell? ⟨gs, 0, none⟩ = some (.int .i64 m) := fun o => (World.cell?_alloc_lt _ _ _ (blk_lt KB9.out)).trans b0c
      have b1a : ∀ o : Obj, (wc.alloc o).cell? ⟨gs, 1, none⟩ = some (.slice Ad d.length cd) := fun o => (World.cell?_alloc_lt _ _ _ (blk_lt KB9.out)).trans b1c
      have HOK := zA (show ∀ k, gs < k → True ∧ some k ≠ (Value.slice Al3 l.length cl3).ownBlock from fun k hk => ⟨trivial, fun e => absurd (S_ok2 HS9.out k e.symm) (by omega)⟩)
      have HO9 := zA (yB (ok' := fun k => True ∧ ¬ gs < k) HS9.out (fun k hk => ⟨trivial, by omega⟩))
      clear HRE
      go_upto_region 31 with (fail)
      go_region_law (refine Kd.S_append_step k177 (w0 := w0) (W := wc.drew) w0.heap.size (by rfl) (.tmp 195) (.tmp 197) 170 177 (.agg #[.int .i64 0, .slice none 0 0]) 32 (by rfl) Try.underlying170 info177 (by rfl) (by decide) (by decide) (.slice Al3 l.length cl3) l ⟨m, d⟩ [.int .i64 m, .slice Ad d.length cd] (fun _ => True) (fun k => gs < k) (by rfl) (by rfl) (k177_mkM _ _ _ _ (zO HD9.out)) HOK.out (fun _ _ => trivial) (yA HO9.out) (below_drew HB9.out) HB9.out.size (by omega) ?_; intro v8 w3 ho hb hg_ hat; obtain ⟨A8, c8, e8⟩ := Kd.S_slice ho; subst e8; have HO3 := zA ho; have HB3 := zA hb; have HG3 := zA hg_; clear ho hb hg_ hat; have i1 := blk_grown (w := wc.drew) KG9.out HG3.out (Kd.S_ne (yA HS9.out) KG9.out (by decide)); have i2 := blk_grown (w := wc.drew) KR9.out HG3.out (Kd.S_ne (yA HS9.out) KR9.out (by decide)); have d3 := zK i1 2; simp at d3; have e3 := zJ i1 2; have I1 := zA i1; have I2 := zA i2; have I3 := zA (blk_grown (w := wc.drew) KQ9.out HG3.out (Kd.S_ne (yA HS9.out) KQ9.out (by decide))); clear i1 i2)
      all_goals
       have hl1 : (l ++ [(⟨m, d⟩ : S177)]).length = l.length + 1 := by simp
       have ho3 := HO3.out
       rw [hl1] at ho3
       have hseg : SegK w0 (w3.setCell ⟨g, 2, none⟩ (.slice A8 (l.length + 1) c8)) g gq A c b n2 (l ++ [⟨m, d⟩]) := ⟨zE HB3.out hg, _, blk_set I1.out 2 _, Kd.S_set ho3 I1.out (by decide) 2 _, blk_far I3.out hqg _⟩
       have hr9 := blk_far I2.out (p := ⟨g, 2, none⟩) (fun e => hgr e.symm) (.slice A8 (l.length + 1) c8)
       have HSEG := zA hseg
       have HR9 := zA hr9
       clear hseg hr9 ho3 hl1
       generalize w3.setCell ⟨g, 2, none⟩ (.slice A8 (l.length + 1) c8) = W9 at HSEG HR9 ⊢
       have u0 := zK HR9.out 0
       have u1 := zK HR9.out 1
       simp at u0 u1
       have u2 := zJ HR9.out 0
       have u3 := zJ HR9.out 1
       go_wp2
       obtain ⟨e1_, e2_⟩ := SegK.fin HSEG.out HR9.out hgr hqr hgw (.int .i64 0) (.int .i64 0)
       refine bodyPost_ret (results_list (rs := [.tmp 2, .cell 3 82]) rfl (by simp) (.tmp (.cell gr 82 #[.int .i64 0, .int .i64 0] (0, 0) _ rfl (by exact e2_) Try.underlying82 rfl (by kernel_rfl) .nil))) rfl ?_
       exact ⟨rfl, by first | exact e1_.drew | exact e1_⟩
set_option maxRecDepth 100000 in
set_option maxHeartbeats 4000000 in
theorem next_calls_b3 (w0 W : World) (g gq : Nat) (A : Option Addr) (c : Nat) (b : List Int) (at_ : Nat) (l : List S177) (h : SegK w0 W g gq A c b at_ l) (hg : w0.heap.size ≤ g) (hqg : gq ≠ g) (hC : Kd.C (Kd.int .u8) w0 A b.length b) (hc : b.length ≤ c) (hat : at_ ≤ b.length) (hlen : b.length ≤ 60000) (hB : ∀ x ∈ b, 0 ≤ x ∧ x ≤ 255) (hl : l.length ≤ 300) (hE : (¬ (b.drop at_ = [] ∨ b.drop at_ = [255]) ∧ markM (b.drop at_) ≠ 254 ∧ badM (markM (b.drop at_)) l = false ∧ l.length ≠ 300)) (hK : markM (b.drop at_) ≠ 0 ∧ isRest (markM (b.drop at_)) = false) :
  Calls Try.prog 163 #[.pointer (some ⟨g, 0, none⟩)] W fun e w' => e = .returned (.tuple #[.bool (nxt b at_ l).1, .agg #[.int .i64 (nxt b at_ l).2.1, .int .i64 (nxt b at_ l).2.2.1]]) ∧ SegK w0 w' g gq A c b (nxt b at_ l).2.2.2.1 (nxt b at_ l).2.2.2.2 := by
 obtain ⟨hbel, v, hk, hS, hq⟩ := h
 have HQ := zA hq
 have k0 := zK hk 0
 have k1 := zK hk 1
 have k2 := zK hk 2
 simp at k0 k1 k2
 obtain ⟨Al, cl, el⟩ := Kd.S_slice hS
 subst el
 have HBEL := zA hbel
 have HK := zA hk
 have HS := zA hS
 have HCB := zA hC
 have HCC := zA hc
 have HBB := zA hB
 have hatc : at_ ≤ c := by omega
 have HE := zA hE
 have HKK := zA hK
 clear hE hK
 clear hbel hk hS hC hB hq
 obtain ⟨R, hR⟩ : ∃ R, R = nxt b at_ l := ⟨_, rfl⟩
 rw [← hR]
 have HRR := zA hR
 clear hR
 go_enter Try.func163, Try.ntmps163
 go_upto_region 1 with (fail)
 have hr := blk_new W (Obj.cells #[.int .i64 0, .int .i64 0] 82)
 have HK1 := zA (zD HK.out (Obj.cells #[.int .i64 0, .int .i64 0] 82))
 have HS1 := zA (zY HS.out (Obj.cells #[.int .i64 0, .int .i64 0] 82))
 have HB1 := zA (zC HBEL.out (Obj.cells #[.int .i64 0, .int .i64 0] 82))
 have hgr : g ≠ W.heap.size := by have := blk_lt HK.out; omega
 have hqr : gq ≠ W.heap.size := by have := blk_lt HQ.out; omega
 have HQ1 := zA (zD HQ.out (Obj.cells #[.int .i64 0, .int .i64 0] 82))
 have hgw : w0.heap.size ≤ W.heap.size := HBEL.out.size
 generalize W.heap.size = gr at hr hgr hqr hgw ⊢
 generalize W.alloc (Obj.cells #[.int .i64 0, .int .i64 0] 82) = W1 at hr HK1 HS1 HB1 HQ1 ⊢
 clear k0 k1 k2 HK HS HBEL HQ
 have k0 := zK HK1.out 0
 have k1 := zK HK1.out 1
 have k2 := zK HK1.out 2
 simp at k0 k1 k2
 have HR := zA hr
 clear hr
 go_wp2
 go_quiet (fail)
 go_upto_block 0 with (fail)
 obtain ⟨rest, hrest⟩ : ∃ rest, rest = b.drop at_ := ⟨_, rfl⟩
 have hrl : b.length - at_ = rest.length := by rw [hrest, zR]
 have hrc : Kd.C (Kd.int .u8) w0 (if c = at_ then A else A.map (·.add at_)) rest.length rest := by
  have h9 := Kd.C_drop HCB.out hat HCC.out
  rw [show (Kd.int IntKind.u8).sz = 1 from rfl] at h9
  simp only [Nat.mul_one] at h9
  rw [hrest]
  exact h9
 rw [hrl]
 generalize (if c = at_ then A else Option.map (fun x => x.add at_) A) = Ar at hrc ⊢
 have hrcc : rest.length ≤ c - at_ := by rw [← hrl]; omega
 have HRC := zA hrc
 have HRCC := zA hrcc
 have HREST := zA hrest
 have HRL := zA hrl
 have HRB := zA (show ∀ x ∈ rest, 0 ≤ x ∧ x ≤ 255 from fun x hx => HBB.out x (by rw [hrest] at hx; exact List.mem_of_mem_drop hx))
 have HSG : Aside0 (SegK w0 (W1.drewN nq) g gq A c b at_ l) := ⟨zB HB1.out nq, _, HK1.out, zZ HS1.out nq, HQ1.out⟩
 have HR2 : Aside0 ((W1.drewN nq).heap[gr]? = some (.cells #[.int .i64 0, .int .i64 0] 82 (0, 0))) := ⟨HR.out⟩
 have HRC1 := zA (Kd.C_below hrc HSG.out.1)
 generalize hcr : c - at_ = cr at HRCC ⊢
 generalize W1.drewN nq = W2 at HSG HR2 HRC1 ⊢
 clear hrest hrl hrc hrcc HK1 HS1 HB1 HQ1 HR k0 k1 k2 hcr
 have j0 : W2.cell? ⟨g, 0, none⟩ = some (.slice A b.length c) := by obtain ⟨_, v, h2, _⟩ := HSG.out; exact zK h2 0
 have j1 : W2.cell? ⟨g, 1, none⟩ = some (.int .i64 (at_ : Int)) := by obtain ⟨_, v, h2, _⟩ := HSG.out; exact zK h2 1
 have r0 : W2.cell? ⟨gr, 0, none⟩ = some (.int .i64 0) := zK HR2.out 0
 have r1 : W2.cell? ⟨gr, 1, none⟩ = some (.int .i64 0) := zK HR2.out 1
 have f0 : W2.frozen? ⟨gr, 0, none⟩ = false := zJ HR2.out 0
 have f1 : W2.frozen? ⟨gr, 1, none⟩ = false := zJ HR2.out 1
 by_cases hend : rest = [] ∨ rest = [255]
 ·exact absurd hend (by rw [HREST.out]; exact HE.out.1)
 ·have hne : rest ≠ [] := fun e => hend (.inl e)
  have hlr : 0 < rest.length := List.length_pos_iff.2 hne
  obtain ⟨ad, q1, hx0⟩ := Kd.at_int HRC1.out 0 (by omega) (by omega)
  cases q1
  rw [show (0 : Int).toNat = 0 from rfl, Addr.add_zero'] at hx0
  have hx1 : 1 < rest.length → W2.cell? ⟨ad.block, ad.off + 1, none⟩ = some (.int .u8 (rd rest 1)) := fun h => by
   obtain ⟨ad', q2, hx⟩ := Kd.at_int HRC1.out 1 (by omega) (by omega)
   cases q2
   have e := add_field ad 0 1 (by omega)
   rw [Nat.zero_add, Addr.add_zero'] at e
   rw [show (1 : Int).toNat = 1 from rfl, e] at hx
   exact hx
  have HX1 := zA hx1
  obtain ⟨b0, hb0⟩ : ∃ b0, b0 = rd rest 0 := ⟨_, rfl⟩
  obtain ⟨b1, hb1⟩ : ∃ b1, b1 = rd rest 1 := ⟨_, rfl⟩
  obtain ⟨m, hm⟩ : ∃ m, m = markM rest := ⟨_, rfl⟩
  have hm2 : m = if b0 ≠ 255 ∨ b1 = 0 then 0 else b1 := by rw [hm, markM, hb0, hb1]
  have hb0r : 0 ≤ b0 ∧ b0 ≤ 255 := by
   rw [hb0]; cases rest with
   | nil => simp at hlr
   | cons x t => exact HRB.out x List.mem_cons_self
  have hb1r : 0 ≤ b1 ∧ b1 ≤ 255 := by
   rw [hb1]; match rest with
   | [] => simp [rd]
   | [x] => simp [rd]
   | x :: y :: t => exact HRB.out y (by simp)
  have hone : rest.length = 1 → b0 ≠ 255 := by
   intro h e
   obtain ⟨x, rfl⟩ := List.length_eq_one_iff.1 h
   exact hend (.inr (by rw [← e, hb0]; rfl))
  rw [← hb0] at hx0
  have hR3 : R = if m = 254 then (true, 0, 0, at_ + 2, l) else if badM m l then (false, 4, (at_ : Int), at_, l) else if l.length = 300 then (false, 6, (at_ : Int), at_, l)
    else if m = 0 then (if 20000 < (un rest).1.length then (false, 5, (at_ : Int), at_, l) else (false, 0, 0, at_ + (un rest).2, l ++ [⟨0, (un rest).1⟩]))
    else if isRest m then (false, 0, 0, at_ + 2, l ++ [⟨m, []⟩]) else if rest.length < 4 then (false, 3, (b.length : Int), at_, l) else if 20000 < lenM rest then (false, 5, (at_ : Int), at_, l)
    else if (rest.length : Int) < 4 + lenM rest then (false, 3, (b.length : Int), at_, l) else (false, 0, 0, at_ + 4 + (lenM rest).toNat, l ++ [⟨m, (rest.drop 4).take (lenM rest).toNat⟩]) := by
   rw [HRR.out, nxt, ← HREST.out, if_neg hend, ← hm]
  have HR3 := zA hR3
  have HB1E := zA hb1
  have hmr : 0 ≤ m ∧ m ≤ 255 := by rw [hm2]; split <;> omega
  have HE2 := zA (show (¬ (rest = [] ∨ rest = [255]) ∧ m ≠ 254 ∧ badM m l = false ∧ l.length ≠ 300) from by rw [hm, HREST.out]; exact HE.out)
  have HKM := zA (show m ≠ 0 ∧ isRest m = false from by rw [hm, HREST.out]; exact HKK.out)
  have HM2 := zA hm2
  have HMM := zA hm
  have HEND := zA hend
  clear hx1 hb0 hb1 hm hm2 hR3 hend hne HRR
  go_cut [6] from 11 (fun v6 wx => v6 = .int .i64 m ∧ wx = W2)
  case first =>
   have z0 : ((rest.length : Int) == 0) = false := by rw [beq_eq_false_iff_ne]; omega
   by_cases h255 : b0 = 255
   ·have h1 : 1 < rest.length := by
     rcases Nat.lt_or_ge 1 rest.length with h | h
     ·exact h
     ·exact absurd h255 (hone (by omega))
    have z1 : ((rest.length : Int) == 1) = false := by rw [beq_eq_false_iff_ne]; omega
    have hx1 := HX1.out h1
    rw [← show b1 = rd rest 1 from HB1E.out] at hx1
    subst h255
    by_cases hz : b1 = 0
    ·subst hz
     have hmz : m = 0 := by rw [HM2.out]; simp
     subst hmz
     go_wp2
     go_meet
     case rel => exact ⟨rfl, rfl⟩
    ·have hmz : m = b1 := by rw [HM2.out]; simp [hz]
     subst hmz
     go_wp2
     go_meet
     case rel => exact ⟨by first | rfl | (congr 1; omega), rfl⟩
   ·have hmz : m = 0 := by rw [HM2.out]; simp [h255]
    subst hmz
    have z2 : (b0 == 255) = false := by simp [h255]
    by_cases h1 : rest.length = 1
    ·have z1 : ((rest.length : Int) == 1) = true := by simp [h1]
     clear h1
     go_wp2
     go_meet
     case rel => exact ⟨rfl, rfl⟩
    ·have z1 : ((rest.length : Int) == 1) = false := by rw [beq_eq_false_iff_ne]; omega
     go_wp2
     go_meet
     case rel => exact ⟨rfl, rfl⟩
  case rest =>
   obtain ⟨rfl, rfl⟩ := hcut
   by_cases h254 : m = 254
   ·exact absurd h254 HE2.out.2.1
   ·have hz254 : (m == 254) = false := by simp [h254]
    obtain ⟨_, v2, hk2, hs2, _⟩ := HSG.out
    obtain ⟨Al2, cl2, e2⟩ := Kd.S_slice hs2
    subst e2
    have j2 := zK hk2 2
    simp at j2
    have HSR := Kd.S_reads' hs2
    have HSC := zA HSR.2.2
    have HSL := zA HSR.2.1
    have HK2 := zA hk2
    have HS2 := zA hs2
    have HMR := zA (mayRun_val l hl)
    have HMS := zA (mayRest_val l hl)
    have HIR := zA (isRest_val m)
    clear hk2 hs2 HSR
    have hR4 : R = if badM m l then (false, 4, (at_ : Int), at_, l) else if l.length = 300 then (false, 6, (at_ : Int), at_, l)
      else if m = 0 then (if 20000 < (un rest).1.length then (false, 5, (at_ : Int), at_, l) else (false, 0, 0, at_ + (un rest).2, l ++ [⟨0, (un rest).1⟩]))
      else if isRest m then (false, 0, 0, at_ + 2, l ++ [⟨m, []⟩]) else if rest.length < 4 then (false, 3, (b.length : Int), at_, l) else if 20000 < lenM rest then (false, 5, (at_ : Int), at_, l)
      else if (rest.length : Int) < 4 + lenM rest then (false, 3, (b.length : Int), at_, l) else (false, 0, 0, at_ + 4 + (lenM rest).toNat, l ++ [⟨m, (rest.drop 4).take (lenM rest).toNat⟩]) := by
     rw [HR3.out, if_neg h254]
    have HR4 := zA hR4
    clear hR4 HR3
    go_upto_block 1 with (fail)
    go_cut [] from 11 (fun wx => Aside0 (SegK w0 wx g gq A c b at_ l) ∧ Aside0 (wx.heap[gr]? = some (.cells #[.int .i64 0, .int .i64 0] 82 (0, 0))) ∧ Aside0 (badM m l = false) ∧ l.length ≠ 300)
    case first =>
     by_cases h247 : 247 < m
     ·exact absurd HE2.out.2.2.1 (by simp [badM, h247])
     ·by_cases hm0 : m = 0
      ·subst hm0
       cases hmr : mayRunM l with
       | false =>
        exact absurd HE2.out.2.2.1 (by simp [badM, hmr])
       | true =>
        have hbad : badM 0 l = false := by simp [badM, hmr, isRest]
        have HBAD := zA hbad
        have hir0 : isRest 0 = false := by decide
        rw [hmr] at HMR
        rw [hir0] at HIR
        clear hbad hmr hir0
        go_wp2_with fail
        refine (impl_mayRun.calls Al2 cl2 l true _ (yF HSC.out 0) HSL.out HMR.out).mono ?_
        rintro e_ w_ ⟨rfl, ⟨n1, rfl⟩⟩
        go_wp2_with fail
        refine (impl_isRestart.calls 0 false _ HIR.out).mono ?_
        rintro e_ w_ ⟨rfl, ⟨n2, rfl⟩⟩
        by_cases h300 : l.length = 300
        ·exact absurd h300 HE2.out.2.2.2
        ·have h3b : ((l.length : Int) == 300) = false := by rw [beq_eq_false_iff_ne]; omega
         go_wp2
         go_meet
         case rel => exact ⟨⟨HSG.out.drewN _⟩, ⟨HR2.out⟩, HBAD, h300⟩
      ·have hm0b : (m == 0) = false := by simp [hm0]
       cases hir : isRest m with
       | false =>
        have hbad : badM m l = false := by simp [badM, h247, hm0, hir]
        have HBAD := zA hbad
        rw [hir] at HIR
        clear hbad hir
        go_wp2_with fail
        refine (impl_isRestart.calls m false _ HIR.out).mono ?_
        rintro e_ w_ ⟨rfl, ⟨n2, rfl⟩⟩
        by_cases h300 : l.length = 300
        ·exact absurd h300 HE2.out.2.2.2
        ·have h3b : ((l.length : Int) == 300) = false := by rw [beq_eq_false_iff_ne]; omega
         go_wp2
         go_meet
         case rel => exact ⟨⟨HSG.out.drewN _⟩, ⟨HR2.out⟩, HBAD, h300⟩
       | true =>
        cases hmr : mayRestM l with
        | false =>
         exact absurd HE2.out.2.2.1 (by simp [badM, hir, hmr])
        | true =>
         have hbad : badM m l = false := by simp [badM, h247, hm0, hmr]
         have HBAD := zA hbad
         rw [hir] at HIR
         rw [hmr] at HMS
         clear hbad hir hmr
         go_wp2_with fail
         refine (impl_isRestart.calls m true _ HIR.out).mono ?_
         rintro e_ w_ ⟨rfl, ⟨n2, rfl⟩⟩
         go_wp2_with fail
         refine (impl_mayRestart.calls Al2 cl2 l true _ (yF HSC.out _) HSL.out HMS.out).mono ?_
         rintro e_ w_ ⟨rfl, ⟨n3, rfl⟩⟩
         by_cases h300 : l.length = 300
         ·exact absurd h300 HE2.out.2.2.2
         ·have h3b : ((l.length : Int) == 300) = false := by rw [beq_eq_false_iff_ne]; omega
          go_wp2
          go_meet
          case rel => exact ⟨⟨HSG.out.drewN _⟩, ⟨HR2.out⟩, HBAD, h300⟩
    case rest =>
     obtain ⟨HSG3, HRF, HBAD, h300⟩ := hcut
     have hR5 : R = if m = 0 then (if 20000 < (un rest).1.length then (false, 5, (at_ : Int), at_, l) else (false, 0, 0, at_ + (un rest).2, l ++ [⟨0, (un rest).1⟩]))
       else if isRest m then (false, 0, 0, at_ + 2, l ++ [⟨m, []⟩]) else if rest.length < 4 then (false, 3, (b.length : Int), at_, l) else if 20000 < lenM rest then (false, 5, (at_ : Int), at_, l)
       else if (rest.length : Int) < 4 + lenM rest then (false, 3, (b.length : Int), at_, l) else (false, 0, 0, at_ + 4 + (lenM rest).toNat, l ++ [⟨m, (rest.drop 4).take (lenM rest).toNat⟩]) := by
      rw [HR4.out, HBAD.out, if_neg (by decide), if_neg h300]
     have HR5 := zA hR5
     clear hR5 HR4 HSG HR2 HRC1 j0 j1 r0 r1 f0 f1 hx0 j2 HSC HSL HK2 HS2 HMR HMS hz254
     go_upto_block 2 with (fail)
     obtain ⟨hb3, v3, hk3, hs3, hq3⟩ := HSG3.out
     obtain ⟨Al3, cl3, e3⟩ := Kd.S_slice hs3
     subst e3
     have kb := blk_new wc (Obj.cells #[.int .i64 m, .slice none 0 0] 177)
     have KG := zA (zD hk3 (Obj.cells #[.int .i64 m, .slice none 0 0] 177))
     have KQ := zA (zD hq3 (Obj.cells #[.int .i64 m, .slice none 0 0] 177))
     have hsq : gq < wc.heap.size := blk_lt hq3
     have KR := zA (zD HRF.out (Obj.cells #[.int .i64 m, .slice none 0 0] 177))
     have HB6 := zA (zC hb3 (Obj.cells #[.int .i64 m, .slice none 0 0] 177))
     have HS6 := zA (yB (ok' := fun k => k < wc.heap.size) (zY (Kd.S_bound hs3) (Obj.cells #[.int .i64 m, .slice none 0 0] 177)) (fun k hk => hk.2.2.1))
     have hsg : g < wc.heap.size := blk_lt hk3
     have hsr : gr < wc.heap.size := blk_lt HRF.out
     have hs0 : w0.heap.size ≤ wc.heap.size := hb3.size
     have hW6s : (wc.alloc (Obj.cells #[.int .i64 m, .slice none 0 0] 177)).heap.size = wc.heap.size + 1 := yD ..
     have HRC6 := zA (Kd.C_below HRC.out HB6.out)
     generalize wc.heap.size = gs at kb HS6 hsg hsr hsq hs0 hW6s ⊢
     generalize wc.alloc (Obj.cells #[.int .i64 m, .slice none 0 0] 177) = W6 at kb KG KR KQ HB6 HS6 hW6s HRC6 ⊢
     have KB := zA kb
     have HW6 := zA hW6s
     clear hb3 hk3 hs3 hq3 HSG3 HRF kb hW6s
     go_cut [] from 11 (fun wx => ∃ (n2 : Nat) (d : List Int) (vd : Value), Aside0 (R = (false, 0, 0, n2, l ++ [⟨m, d⟩])) ∧ Aside0 (wx.heap[gs]? = some (.cells #[.int .i64 m, vd] 177 (0, 0))) ∧ Aside0 (wx.heap[g]? = some (.cells #[.slice A b.length c, .int .i64 (n2 : Int), .slice Al3 l.length cl3] 182 (0, 0))) ∧ Aside0 (wx.heap[gr]? = some (.cells #[.int .i64 0, .int .i64 0] 82 (0, 0))) ∧ Aside0 (wx.heap[gq]? = some (.cells #[.int .i64 0, .int .i64 0] 82 (0, 0))) ∧
      Aside0 (Below w0.heap.size w0 wx) ∧ Aside0 (Kd.S k177 177 wx w0.heap.size (fun k => k < gs) (.slice Al3 l.length cl3) l) ∧ Aside0 (Kd.R (Kd.int .u8) 5 wx w0.heap.size (fun k => gs < k) vd d))
     case first =>
      have s0 := zK KG.out 0
      have s1 := zK KG.out 1
      simp at s0 s1
      have t0 := zK KR.out 0
      have t1 := zK KR.out 1
      simp at t0 t1
      have q0 := zJ KR.out 0
      have q1 := zJ KR.out 1
      have q2 := zJ KG.out 1
      have q3 := zJ KB.out 1
      have b1c := zK KB.out 1
      simp at b1c
      by_cases hm0 : m = 0
      ·exact absurd hm0 HKM.out.1
      ·have hm0b : (m == 0) = false := by simp [hm0]
       cases hir : isRest m with
       | true =>
        rw [HKM.out.2] at hir
        cases hir
       | false =>
        have hR6 : R = if rest.length < 4 then (false, 3, (b.length : Int), at_, l) else if 20000 < lenM rest then (false, 5, (at_ : Int), at_, l)
          else if (rest.length : Int) < 4 + lenM rest then (false, 3, (b.length : Int), at_, l) else (false, 0, 0, at_ + 4 + (lenM rest).toNat, l ++ [⟨m, (rest.drop 4).take (lenM rest).toNat⟩]) := by
         rw [HR5.out, if_neg hm0, hir, if_neg (by decide)]
        have HR6 := zA hR6
        rw [hir] at HIR
        clear hR6 hir
        go_wp2_with fail
        refine (impl_isRestart.calls m false _ HIR.out).mono ?_
        rintro e_ w_ ⟨rfl, ⟨n2, rfl⟩⟩
        have KG2 : Aside0 ((W6.drewN n2).heap[g]? = some (.cells #[.slice A b.length c, .int .i64 (at_ : Int), .slice Al3 l.length cl3] 182 (0, 0))) := ⟨KG.out⟩
        have KR2 : Aside0 ((W6.drewN n2).heap[gr]? = some (.cells #[.int .i64 0, .int .i64 0] 82 (0, 0))) := ⟨KR.out⟩
        have KQ2 : Aside0 ((W6.drewN n2).heap[gq]? = some (.cells #[.int .i64 0, .int .i64 0] 82 (0, 0))) := ⟨KQ.out⟩
        have KB2 : Aside0 ((W6.drewN n2).heap[gs]? = some (.cells #[.int .i64 m, .slice none 0 0] 177 (0, 0))) := ⟨KB.out⟩
        have HB7 := zA (zB HB6.out n2)
        have HS7 := zA (zZ HS6.out n2)
        have HRC7 := zA (yF HRC6.out n2)
        have HW7 : Aside0 ((W6.drewN n2).heap.size = gs + 1) := ⟨HW6.out⟩
        clear s0 s1 t0 t1 q0 q1 q2 q3 b1c KG KR KQ KB HB6 HS6 HRC6 HW6
        generalize W6.drewN n2 = W7 at KG2 KR2 KQ2 KB2 HB7 HS7 HRC7 HW7 ⊢
        have s0 := zK KG2.out 0
        have s1 := zK KG2.out 1
        simp at s0 s1
        have t0 := zK KR2.out 0
        have t1 := zK KR2.out 1
        simp at t0 t1
        have q0 := zJ KR2.out 0
        have q1 := zJ KR2.out 1
        have q2 := zJ KG2.out 1
        have q3 := zJ KB2.out 1
        have b1c := zK KB2.out 1
        simp at b1c
        have hseg : SegK w0 W7 g gq A c b at_ l := ⟨HB7.out, _, KG2.out, yB HS7.out (fun _ _ => trivial), KQ2.out⟩
        have HSEG := zA hseg
        clear hseg
        have hrl2 : rest.length ≤ 60000 := by have := HRL.out; omega
        by_cases h4 : rest.length < 4
        ·have hRe : R = (false, 3, (b.length : Int), at_, l) := by rw [HR6.out, if_pos h4]
         subst hRe
         go_wp2
         go_region
         go_wp2
         obtain ⟨e1_, e2_⟩ := SegK.fin HSEG.out KR2.out hgr hqr hgw (.int .i64 3) (.int .i64 b.length)
         refine bodyPost_ret (results_list (rs := [.tmp 2, .cell 3 82]) rfl (by simp) (.tmp (.cell gr 82 #[.int .i64 3, .int .i64 b.length] (0, 0) _ rfl (by exact e2_) Try.underlying82 rfl (by kernel_rfl) .nil))) rfl ?_
         exact ⟨rfl, by first | exact e1_.drew | exact e1_⟩
        ·have hc4 : ∀ i : Nat, 0 < i → i < rest.length → W7.cell? ⟨ad.block, ad.off + i, none⟩ = some (.int .u8 (rd rest i)) := fun i h0 h => by
          obtain ⟨ad', q2, hx⟩ := Kd.at_int HRC7.out (i : Int) (by omega) (by omega)
          cases q2
          have e := add_field ad 0 i h0
          rw [Nat.zero_add, Addr.add_zero'] at e
          rw [Int.toNat_natCast, e] at hx
          exact hx
         have c2_ := hc4 2 (by omega) (by omega)
         have c3_ := hc4 3 (by omega) (by omega)
         obtain ⟨y2, hy2⟩ : ∃ y, y = rd rest 2 := ⟨_, rfl⟩
         obtain ⟨y3, hy3⟩ : ∃ y, y = rd rest 3 := ⟨_, rfl⟩
         rw [show ((2 : Nat) : Int) = 2 from rfl, ← hy2] at c2_
         rw [show ((3 : Nat) : Int) = 3 from rfl, ← hy3] at c3_
         have hb23 : (0 ≤ y2 ∧ y2 ≤ 255) ∧ (0 ≤ y3 ∧ y3 ≤ 255) := by
          rw [hy2, hy3]
          match rest, h4 with
          | [], h4 => simp at h4
          | [_], h4 => simp at h4
          | [_, _], h4 => simp at h4
          | [_, _, _], h4 => simp at h4
          | p0 :: p1 :: p2 :: p3 :: t, _ => exact ⟨HRB.out p2 (by simp), HRB.out p3 (by simp)⟩
         obtain ⟨⟨y20, y21⟩, y30, y31⟩ := hb23
         have hor := or_byte y2 y3 y20 (by omega) y30 y31
         have hln : lenM rest = y2 * 256 + y3 := by rw [lenM, hy2, hy3]
         rw [hln] at HR6
         clear hc4 hy2 hy3 hln
         go_wp2
         go_quiet (fail)
         obtain ⟨n, hn⟩ : ∃ n : Nat, y2 * 256 + y3 = (n : Int) := ⟨(y2 * 256 + y3).toNat, by omega⟩
         rw [hn]
         rw [hn] at HR6
         rw [Int.toNat_natCast] at HR6
         clear hor hn c2_ c3_
         by_cases h20 : 20000 < (n : Int)
         ·have hRe : R = (false, 5, (at_ : Int), at_, l) := by rw [HR6.out, if_neg h4, if_pos h20]
          subst hRe
          go_wp2
          obtain ⟨e1_, e2_⟩ := SegK.fin (HSEG.out.drewN nq) (show (W7.drewN nq).heap[gr]? = some (.cells #[.int .i64 0, .int .i64 0] 82 (0, 0)) from KR2.out) hgr hqr hgw (.int .i64 5) (.int .i64 at_)
          refine bodyPost_ret (results_list (rs := [.tmp 2, .cell 3 82]) rfl (by simp) (.tmp (.cell gr 82 #[.int .i64 5, .int .i64 at_] (0, 0) _ rfl (by exact e2_) Try.underlying82 rfl (by kernel_rfl) .nil))) rfl ?_
          exact ⟨rfl, by first | exact e1_.drew | exact e1_⟩
         ·by_cases h4n : (rest.length : Int) < 4 + n
          ·have hRe : R = (false, 3, (b.length : Int), at_, l) := by rw [HR6.out, if_neg h4, if_neg h20, if_pos h4n]
           subst hRe
           go_wp2
           go_region
           go_wp2
           obtain ⟨e1_, e2_⟩ := SegK.fin (HSEG.out.drewN nq) (show (W7.drewN nq).heap[gr]? = some (.cells #[.int .i64 0, .int .i64 0] 82 (0, 0)) from KR2.out) hgr hqr hgw (.int .i64 3) (.int .i64 b.length)
           refine bodyPost_ret (results_list (rs := [.tmp 2, .cell 3 82]) rfl (by simp) (.tmp (.cell gr 82 #[.int .i64 3, .int .i64 b.length] (0, 0) _ rfl (by exact e2_) Try.underlying82 rfl (by kernel_rfl) .nil))) rfl ?_
           exact ⟨rfl, by first | exact e1_.drew | exact e1_⟩
          ·have hRe : R = (false, 0, 0, at_ + 4 + n, l ++ [⟨m, (rest.drop 4).take n⟩]) := by rw [HR6.out, if_neg h4, if_neg h20, if_neg h4n]
           have HRE := zA hRe
           clear hRe
           have hcc := HRCC.out
           have hln4 : ((rest.drop 4).take n).length = n := by rw [zQ, zR]; omega
           have HLN := zA hln4
           have HCT := zA (Kd.C_take (m := n) (Kd.C_drop (m := 4) (c := cr) HRC7.out (by omega) HRCC.out) (by rw [zR]; omega))
           by_cases hcr : cr = 4
           ·have HC8 : Aside0 (Kd.C (Kd.int .u8) (W7.drewN nq) (some ad) ((rest.drop 4).take n).length ((rest.drop 4).take n)) := by
             have h9 := HCT.out
             rw [if_pos hcr] at h9
             exact ⟨yF h9 nq⟩
            subst hcr
            clear hln4 HCT
            go_wp2_with fail
            rw [show (Value.slice (some ad) n 0) = Value.slice (some ad) ((rest.drop 4).take n).length (4 - 4) by rw [HLN.out]]
            refine (clone_calls (some ad) (4 - 4) ((rest.drop 4).take n) _ HC8.out (by rw [HLN.out]; omega) (by rw [HLN.out]; omega)).mono ?_
            rintro e_ w2 ⟨vd, rfl, hd, hb2⟩
            obtain ⟨Ad, cd, ed⟩ := Kd.R_slice hd
            subst ed
            obtain ⟨dd, hdd⟩ : ∃ dd, dd = (rest.drop 4).take n := ⟨_, rfl⟩
            rw [← hdd] at HRE hd
            have HD := zA (zP (ok' := fun k => gs < k) (Kd.R_lower (Kd.R_bound hd) (show w0.heap.size ≤ (W7.drewN nq).heap.size by have := HW7.out; show w0.heap.size ≤ W7.heap.size; omega)) (fun k hk => by have h1 := hk.2.1; have h2 : (W7.drewN nq).heap.size = gs + 1 := HW7.out; omega))
            have KG8 := zA (blk_below (w := W7.drewN nq) KG2.out hb2)
            have KR8 := zA (blk_below (w := W7.drewN nq) KR2.out hb2)
            have KQ8 := zA (blk_below (w := W7.drewN nq) KQ2.out hb2)
            have KB8 := zA (blk_below (w := W7.drewN nq) KB2.out hb2)
            have HB8 := zA (Below.trans (zB HB7.out nq) (hb2.mono (zB HB7.out nq).size))
            have HS8 := zA (Kd.S_below (zZ HS7.out nq) hb2)
            rw [← hdd]
            clear hd hb2 hdd s0 s1 t0 t1 q0 q1 q2 q3 b1c
            have s1 := zK KG8.out 1
            simp at s1
            have b1c := zK KB8.out 1
            simp at b1c
            have q2 := zJ KG8.out 1
            have q3 := zJ KB8.out 1
            have hnsg : ¬ gs = g := by omega
            have hngs : ¬ g = gs := by omega
            go_wp2
            go_meet
            case rel =>
             refine ⟨at_ + 4 + n, dd, .slice Ad dd.length cd, HRE, ⟨blk_far (blk_set KB8.out 1 _) (by show gs ≠ g; omega) _⟩, ⟨blk_set (blk_far KG8.out (by show g ≠ gs; omega) _) 1 _⟩, ⟨blk_far (blk_far KR8.out (by show gr ≠ gs; omega) _) (by show gr ≠ g; omega) _⟩, ⟨blk_far (blk_far KQ8.out (by show gq ≠ gs; omega) _) hqg _⟩, ⟨zE (zE HB8.out hs0) hg⟩, ⟨?_⟩, ⟨?_⟩⟩
             ·exact yB (yC (p := ⟨g, 1, none⟩) (yC (p := ⟨gs, 1, none⟩) (Kd.S_types HS8.out KG8.out (by decide)) (fun k hk => by show k ≠ gs; have := hk.1; omega) _) (fun k hk => hk.2) _) (fun k hk => hk.1)
             ·exact zP (Kd.R_far (p := ⟨g, 1, none⟩) (Kd.R_far (p := ⟨gs, 1, none⟩) (zX HD.out KG8.out (by decide)) (fun k hk => by show k ≠ gs; have := hk.1; omega) _) (fun k hk => hk.2) _) (fun k hk => hk.1)
           ·have HC8 : Aside0 (Kd.C (Kd.int .u8) (W7.drewN nq) (some ⟨ad.block, ad.off + 4, none⟩) ((rest.drop 4).take n).length ((rest.drop 4).take n)) := by
             have h9 := HCT.out
             rw [if_neg hcr] at h9
             have e := add_field ad 0 4 (by omega)
             rw [Nat.zero_add, Addr.add_zero'] at e
             simp only [Option.map_some] at h9
             rw [show 4 * (Kd.int IntKind.u8).sz = 4 from rfl, e] at h9
             exact ⟨yF h9 nq⟩
            clear hln4 HCT
            go_wp2_with fail
            rw [show (Value.slice (some ⟨ad.block, ad.off + 4, none⟩) n (cr - 4)) = Value.slice (some ⟨ad.block, ad.off + 4, none⟩) ((rest.drop 4).take n).length (cr - 4) by rw [HLN.out]]
            refine (clone_calls (some ⟨ad.block, ad.off + 4, none⟩) (cr - 4) ((rest.drop 4).take n) _ HC8.out (by rw [HLN.out]; omega) (by rw [HLN.out]; omega)).mono ?_
            rintro e_ w2 ⟨vd, rfl, hd, hb2⟩
            obtain ⟨Ad, cd, ed⟩ := Kd.R_slice hd
            subst ed
            obtain ⟨dd, hdd⟩ : ∃ dd, dd = (rest.drop 4).take n := ⟨_, rfl⟩
            rw [← hdd] at HRE hd
            have HD := zA (zP (ok' := fun k => gs < k) (Kd.R_lower (Kd.R_bound hd) (show w0.heap.size ≤ (W7.drewN nq).heap.size by have := HW7.out; show w0.heap.size ≤ W7.heap.size; omega)) (fun k hk => by have h1 := hk.2.1; have h2 : (W7.drewN nq).heap.size = gs + 1 := HW7.out; omega))
            have KG8 := zA (blk_below (w := W7.drewN nq) KG2.out hb2)
            have KR8 := zA (blk_below (w := W7.drewN nq) KR2.out hb2)
            have KQ8 := zA (blk_below (w := W7.drewN nq) KQ2.out hb2)
            have KB8 := zA (blk_below (w := W7.drewN nq) KB2.out hb2)
            have HB8 := zA (Below.trans (zB HB7.out nq) (hb2.mono (zB HB7.out nq).size))
            have HS8 := zA (Kd.S_below (zZ HS7.out nq) hb2)
            rw [← hdd]
            clear hd hb2 hdd s0 s1 t0 t1 q0 q1 q2 q3 b1c
            have s1 := zK KG8.out 1
            simp at s1
            have b1c := zK KB8.out 1
            simp at b1c
            have q2 := zJ KG8.out 1
            have q3 := zJ KB8.out 1
            have hnsg : ¬ gs = g := by omega
            have hngs : ¬ g = gs := by omega
            go_wp2
            go_meet
            case rel =>
             refine ⟨at_ + 4 + n, dd, .slice Ad dd.length cd, HRE, ⟨blk_far (blk_set KB8.out 1 _) (by show gs ≠ g; omega) _⟩, ⟨blk_set (blk_far KG8.out (by show g ≠ gs; omega) _) 1 _⟩, ⟨blk_far (blk_far KR8.out (by show gr ≠ gs; omega) _) (by show gr ≠ g; omega) _⟩, ⟨blk_far (blk_far KQ8.out (by show gq ≠ gs; omega) _) hqg _⟩, ⟨zE (zE HB8.out hs0) hg⟩, ⟨?_⟩, ⟨?_⟩⟩
             ·exact yB (yC (p := ⟨g, 1, none⟩) (yC (p := ⟨gs, 1, none⟩) (Kd.S_types HS8.out KG8.out (by decide)) (fun k hk => by show k ≠ gs; have := hk.1; omega) _) (fun k hk => hk.2) _) (fun k hk => hk.1)
             ·exact zP (Kd.R_far (p := ⟨g, 1, none⟩) (Kd.R_far (p := ⟨gs, 1, none⟩) (zX HD.out KG8.out (by decide)) (fun k hk => by show k ≠ gs; have := hk.1; omega) _) (fun k hk => hk.2) _) (fun k hk => hk.1)
     case rest =>
      obtain ⟨n2, d, vd, HRE, KB9, KG9, KR9, KQ9, HB9, HS9, HD9⟩ := hcut
      have hRe := HRE.out
      subst hRe
      obtain ⟨Ad, cd, ed⟩ := Kd.R_slice HD9.out
      subst ed
      have s0 := zK KG9.out 0
      have s2 := zK KG9.out 2
      simp at s0 s2
      have q4 := zJ KG9.out 2
      have b0c := zK KB9.out 0
      have b1c := zK KB9.out 1
      simp at b0c b1c
      have t0 := zK KR9.out 0
      have t1 := zK KR9.out 1
      simp at t0 t1
      have s2a : ∀ o : Obj, (wc.alloc o).cell? ⟨g, 2, none⟩ = some (.slice Al3 l.length cl3) := fun o => (World.cell?_alloc_lt _ _ _ (blk_lt KG9.out)).trans s2
      have b0a : ∀ o : Obj, (wc.alloc o).cell? ⟨gs, 0, none⟩ = some (.int .i64 m) := fun o => (World.cell?_alloc_lt _ _ _ (blk_lt KB9.out)).trans b0c
      have b1a : ∀ o : Obj, (wc.alloc o).cell? ⟨gs, 1, none⟩ = some (.slice Ad d.length cd) := fun o => (World.cell?_alloc_lt _ _ _ (blk_lt KB9.out)).trans b1c
      have HOK := zA (show ∀ k, gs < k → True ∧ some k ≠ (Value.slice Al3 l.length cl3).ownBlock from fun k hk => ⟨trivial, fun e => absurd (S_ok2 HS9.out k e.symm) (by omega)⟩)
      have HO9 := zA (yB (ok' := fun k => True ∧ ¬ gs < k) HS9.out (fun k hk => ⟨trivial, by omega⟩))
      clear HRE
      go_upto_region 31 with (fail)
      go_region_law (refine Kd.S_append_step k177 (w0 := w0) (W := wc.drew) w0.heap.size (by rfl) (.tmp 195) (.tmp 197) 170 177 (.agg #[.int .i64 0, .slice none 0 0]) 32 (by rfl) Try.underlying170 info177 (by rfl) (by decide) (by decide) (.slice Al3 l.length cl3) l ⟨m, d⟩ [.int .i64 m, .slice Ad d.length cd] (fun _ => True) (fun k => gs < k) (by rfl) (by rfl) (k177_mkM _ _ _ _ (zO HD9.out)) HOK.out (fun _ _ => trivial) (yA HO9.out) (below_drew HB9.out) HB9.out.size (by omega) ?_; intro v8 w3 ho hb hg_ hat; obtain ⟨A8, c8, e8⟩ := Kd.S_slice ho; subst e8; have HO3 := zA ho; have HB3 := zA hb; have HG3 := zA hg_; clear ho hb hg_ hat; have i1 := blk_grown (w := wc.drew) KG9.out HG3.out (Kd.S_ne (yA HS9.out) KG9.out (by decide)); have i2 := blk_grown (w := wc.drew) KR9.out HG3.out (Kd.S_ne (yA HS9.out) KR9.out (by decide)); have d3 := zK i1 2; simp at d3; have e3 := zJ i1 2; have I1 := zA i1; have I2 := zA i2; have I3 := zA (blk_grown (w := wc.drew) KQ9.out HG3.out (Kd.S_ne (yA HS9.out) KQ9.out (by decide))); clear i1 i2)
      all_goals
       have hl1 : (l ++ [(⟨m, d⟩ : S177)]).length = l.length + 1 := by simp
       have ho3 := HO3.out
       rw [hl1] at ho3
       have hseg : SegK w0 (w3.setCell ⟨g, 2, none⟩ (.slice A8 (l.length + 1) c8)) g gq A c b n2 (l ++ [⟨m, d⟩]) := ⟨zE HB3.out hg, _, blk_set I1.out 2 _, Kd.S_set ho3 I1.out (by decide) 2 _, blk_far I3.out hqg _⟩
       have hr9 := blk_far I2.out (p := ⟨g, 2, none⟩) (fun e => hgr e.symm) (.slice A8 (l.length + 1) c8)
       have HSEG := zA hseg
       have HR9 := zA hr9
       clear hseg hr9 ho3 hl1
       generalize w3.setCell ⟨g, 2, none⟩ (.slice A8 (l.length + 1) c8) = W9 at HSEG HR9 ⊢
       have u0 := zK HR9.out 0
       have u1 := zK HR9.out 1
       simp at u0 u1
       have u2 := zJ HR9.out 0
       have u3 := zJ HR9.out 1
       go_wp2
       obtain ⟨e1_, e2_⟩ := SegK.fin HSEG.out HR9.out hgr hqr hgw (.int .i64 0) (.int .i64 0)
       refine bodyPost_ret (results_list (rs := [.tmp 2, .cell 3 82]) rfl (by simp) (.tmp (.cell gr 82 #[.int .i64 0, .int .i64 0] (0, 0) _ rfl (by exact e2_) Try.underlying82 rfl (by kernel_rfl) .nil))) rfl ?_
       exact ⟨rfl, by first | exact e1_.drew | exact e1_⟩
theorem next_calls (w0 W : World) (g gq : Nat) (A : Option Addr) (c : Nat) (b : List Int) (at_ : Nat) (l : List S177) (h : SegK w0 W g gq A c b at_ l) (hg : w0.heap.size ≤ g) (hqg : gq ≠ g) (hC : Kd.C (Kd.int .u8) w0 A b.length b) (hc : b.length ≤ c) (hat : at_ ≤ b.length) (hlen : b.length ≤ 60000) (hB : ∀ x ∈ b, 0 ≤ x ∧ x ≤ 255) (hl : l.length ≤ 300) :
  Calls Try.prog 163 #[.pointer (some ⟨g, 0, none⟩)] W fun e w' => e = .returned (.tuple #[.bool (nxt b at_ l).1, .agg #[.int .i64 (nxt b at_ l).2.1, .int .i64 (nxt b at_ l).2.2.1]]) ∧ SegK w0 w' g gq A c b (nxt b at_ l).2.2.2.1 (nxt b at_ l).2.2.2.2 := by
 by_cases hE : (¬ (b.drop at_ = [] ∨ b.drop at_ = [255]) ∧ markM (b.drop at_) ≠ 254 ∧ badM (markM (b.drop at_)) l = false ∧ l.length ≠ 300)
 ·by_cases h0 : markM (b.drop at_) = 0
  ·exact next_calls_b1 w0 W g gq A c b at_ l h hg hqg hC hc hat hlen hB hl hE h0
  ·cases hi : isRest (markM (b.drop at_)) with
   | true => exact next_calls_b2 w0 W g gq A c b at_ l h hg hqg hC hc hat hlen hB hl hE ⟨h0, hi⟩
   | false => exact next_calls_b3 w0 W g gq A c b at_ l h hg hqg hC hc hat hlen hB hl hE ⟨h0, hi⟩
 ·exact next_calls_a w0 W g gq A c b at_ l h hg hqg hC hc hat hlen hB hl hE
end Go.Proofs.Ytilimpjcdeeaiaa.G


namespace Go.Proofs.Ytilimpjcdeeaiaa.G
open Go.RowKit Go.Proofs.YtilimpjcdeeaiaaW.PrintWords Go.Proofs.YtilimpjcdeeaiaaW.PrintLast Go.Proofs.YtilimpjcdeeaiaaW.PrintMore
attribute [local go_sem] max2_int min2_int max_two min_two max_three min_three max_four min_four   -- for this text's walks alone
--import Derived.BigRegion
--import Derived.Deep.CutBlock
--import Derived.Deep.CutRange
--import Derived.Deep.LoopGhost
theorem un_pos (l : List Int) (h0 : l ≠ []) (h1 : l ≠ [255]) (h : rd l 0 ≠ 255 ∨ rd l 1 = 0) : 1 ≤ (un l).2 := by
 match l, h0, h1, h with
 | [], h0, _, _ => exact absurd rfl h0
 | [x], _, h1, _ =>
  have hx : x ≠ 255 := fun e => h1 (by rw [e])
  rw [un_ne x [] hx]; simp
 | x :: y :: t, _, _, h =>
  by_cases hx : x = 255
  ·subst hx
   have hy : y = 0 := by simpa [rd] using h
   subst hy
   rw [un_two]; simp
  ·rw [un_ne x _ hx]; simp
theorem nxt_facts (b : List Int) (at_ : Nat) (l : List S177) (hat : at_ ≤ b.length) (hl : l.length ≤ 300) :
  (nxt b at_ l).2.2.2.1 ≤ b.length ∧ (nxt b at_ l).2.2.2.2.length ≤ 300 ∧ ((nxt b at_ l).2.1 = 0 → (nxt b at_ l).1 = false → at_ < (nxt b at_ l).2.2.2.1) := by
 have hrl : (b.drop at_).length = b.length - at_ := zR
 obtain ⟨rest, hrest⟩ : ∃ rest, rest = b.drop at_ := ⟨_, rfl⟩
 have hm1 : markM rest ≠ 0 → 2 ≤ rest.length := by
  intro hm
  unfold markM at hm
  match rest, hm with
  | [], hm => simp [rd] at hm
  | [x], hm => simp [rd] at hm
  | x :: y :: t, _ => simp
 unfold nxt
 rw [← hrest] at hrl ⊢
 by_cases he : rest = [] ∨ rest = [255]
 ·rw [if_pos he]; exact ⟨hat, hl, fun h => by simp at h⟩
 rw [if_neg he]
 by_cases h254 : markM rest = 254
 ·rw [if_pos h254]
  have := hm1 (by omega)
  exact ⟨by simp only []; omega, hl, fun _ h => by simp at h⟩
 rw [if_neg h254]
 by_cases hb : badM (markM rest) l = true
 ·rw [if_pos hb]; exact ⟨hat, hl, fun h => by simp at h⟩
 rw [if_neg hb]
 by_cases h3 : l.length = 300
 ·rw [if_pos h3]; exact ⟨hat, hl, fun h => by simp at h⟩
 rw [if_neg h3]
 by_cases hm0 : markM rest = 0
 ·rw [if_pos hm0]
  by_cases h20 : 20000 < (un rest).1.length
  ·rw [if_pos h20]; exact ⟨hat, hl, fun h => by simp at h⟩
  ·rw [if_neg h20]
   have h1 := un_le rest
   have h2 : 1 ≤ (un rest).2 := un_pos rest (fun e => he (.inl e)) (fun e => he (.inr e)) (by unfold markM at hm0; by_cases hc : rd rest 0 ≠ 255 ∨ rd rest 1 = 0; exact hc; rw [if_neg hc] at hm0; exact .inr hm0)
   exact ⟨by simp only []; omega, by simp; omega, fun _ _ => by simp only []; omega⟩
 rw [if_neg hm0]
 have hr2 := hm1 hm0
 by_cases hi : isRest (markM rest) = true
 ·rw [if_pos hi]; exact ⟨by simp only []; omega, by simp; omega, fun _ _ => by simp only []; omega⟩
 rw [if_neg hi]
 by_cases h4 : rest.length < 4
 ·rw [if_pos h4]; exact ⟨hat, hl, fun h => by simp at h⟩
 rw [if_neg h4]
 by_cases h20 : 20000 < lenM rest
 ·rw [if_pos h20]; exact ⟨hat, hl, fun h => by simp at h⟩
 rw [if_neg h20]
 by_cases h4n : (rest.length : Int) < 4 + lenM rest
 ·rw [if_pos h4n]; exact ⟨hat, hl, fun h => by simp at h⟩
 rw [if_neg h4n]
 exact ⟨by simp only []; omega, by simp; omega, fun _ _ => by simp only []; omega⟩
/-- the program's loop -/
def sfI (b : List Int) : Nat → Nat → List S177 → List S177 × Bool × Int × Int
 | 0, _, l => (l, false, 0, 0)
 | n + 1, at_, l =>
  if (nxt b at_ l).2.1 = 3 then (if mayRestM (nxt b at_ l).2.2.2.2 = true ∧ b.length - (nxt b at_ l).2.2.2.1 < 2 then ((nxt b at_ l).2.2.2.2.dropLast, false, 0, 0) else ((nxt b at_ l).2.2.2.2, false, 0, 0))
  else if (nxt b at_ l).2.1 ≠ 0 then ((nxt b at_ l).2.2.2.2, false, (nxt b at_ l).2.1, (nxt b at_ l).2.2.1)
  else if (nxt b at_ l).1 = true then (if (nxt b at_ l).2.2.2.1 < b.length then ((nxt b at_ l).2.2.2.2, true, 7, ((nxt b at_ l).2.2.2.1 : Int)) else ((nxt b at_ l).2.2.2.2, true, 0, 0))
  else sfI b n (nxt b at_ l).2.2.2.1 (nxt b at_ l).2.2.2.2
def soFarM (b : List Int) : List S177 × Bool × Int × Int :=
 if 60000 < b.length then ([], false, 1, 0) else if b.length = 0 ∨ (b.length = 1 ∧ rd b 0 = 84) then ([], false, 0, 0)
 else if b.length < 2 ∨ rd b 0 ≠ 84 ∨ rd b 1 ≠ 83 then ([], false, 2, 0) else sfI b (b.length + 1) 2 []
def impl_SegsSoFar.f (l0 : List Int) : Option (List S177 × Bool × Int × Int) := if isB l0 ∧ l0.length ≤ 1048576 then some (soFarM l0) else none
/-- the answer is laid down -/
theorem segTold {w0 W : World} {gq : Nat} {v : Value} {l : List S177} (h1 : Below w0.heap.size w0 W) (h3 : Kd.S k177 177 W w0.heap.size (fun _ => True) v l) {x y : Value} (h4 : W.heap[gq]? = some (.cells #[x, y] 82 (0, 0))) (hg : w0.heap.size ≤ gq) (C P : Value) :
  Kd.S k177 177 ((W.setCell ⟨gq, 0, none⟩ C).setCell ⟨gq, 1, none⟩ P) w0.heap.size (fun _ => True) v l ∧ Below w0.heap.size w0 ((W.setCell ⟨gq, 0, none⟩ C).setCell ⟨gq, 1, none⟩ P) ∧ ((W.setCell ⟨gq, 0, none⟩ C).setCell ⟨gq, 1, none⟩ P).heap[gq]? = some (.cells #[C, P] 82 (0, 0)) :=
 ⟨yB (yC (p := ⟨gq, 1, none⟩) (yC (p := ⟨gq, 0, none⟩) (Kd.S_types h3 h4 (by decide)) (fun k hk => hk.2) _) (fun k hk => hk.2) _) (fun _ _ => trivial), zE (zE h1 hg) hg, blk_set (blk_set h4 0 C) 1 P⟩
set_option maxRecDepth 100000 in
set_option maxHeartbeats 4000000 in
theorem impl_SegsSoFar.calls (A0 : Option Addr) (c0 : Nat) (l0 : List Int) (r1 : List S177) (r2 : Bool) (r3 : Int) (r4 : Int) (w : World) (hr0 : Kd.C (Kd.int .u8) w A0 l0.length l0) (hc0 : l0.length ≤ c0) (h : impl_SegsSoFar.f l0 = some (r1, r2, r3, r4)) :
  Calls Try.prog 159 #[.slice A0 l0.length c0] w fun e w' => ∃ v0_ : Value, e = .returned (.tuple #[v0_, .bool r2, .agg #[.int .i64 r3, .int .i64 r4]]) ∧ Kd.S k177 177 w' w.heap.size (fun _ => True) v0_ r1 ∧ Below w.heap.size w w' := by
 unfold impl_SegsSoFar.f at h
 split at h
 ·rename_i hcond
  obtain ⟨hbb, hlen⟩ := hcond
  have HBB := zA (isB_all hbb)
  have HH := zA (Option.some.inj h)
  have HR0 := zA hr0
  have HC0 := zA hc0
  clear h hr0 hc0 hbb
  go_enter Try.func159, Try.ntmps159
  go_upto_region 1 with (fail)
  have hq := blk_new w (Obj.cells #[.int .i64 0, .int .i64 0] 82)
  have HB1 := zA (zC (Below.refl w.heap.size w) (Obj.cells #[.int .i64 0, .int .i64 0] 82))
  generalize hgqe : w.heap.size = gq at hq ⊢
  generalize w.alloc (Obj.cells #[.int .i64 0, .int .i64 0] 82) = W1 at hq HB1 ⊢
  have r0 := zK hq 0
  have r1c := zK hq 1
  simp at r0 r1c
  have f0 := zJ hq 0
  have f1 := zJ hq 1
  have HQ := zA hq
  have HGQ := zA hgqe
  have hgq : w.heap.size ≤ gq := by omega
  clear hq hgqe
  by_cases h1 : 60000 < l0.length
  ·have z1 : decide ((60000 : Int) < (l0.length : Int)) = true := zT (by omega)
   have hh := HH.out
   rw [show soFarM l0 = ([], false, 1, 0) by unfold soFarM; rw [if_pos h1]] at hh
   injection hh with t1 t2
   injection t2 with t2 t3
   injection t3 with t3 t4
   subst t1; subst t2; subst t3; subst t4
   go_wp2
   obtain ⟨e0_, e1_, e2_⟩ := segTold HB1.out (Kd.S_nil _ _ _ _ _) HQ.out hgq (.int .i64 1) (.int .i64 0)
   refine bodyPost_ret (results_list (rs := [.tmp 2, .tmp 3, .cell 4 82]) rfl (by simp) (.tmp (.tmp (.cell gq 82 #[.int .i64 1, .int .i64 0] (0, 0) _ rfl (by exact e2_) Try.underlying82 rfl (by kernel_rfl) .nil)))) rfl ?_
   exact ⟨_, rfl, by first | exact e0_ | exact yA e0_, by first | exact e1_ | exact below_drew e1_⟩
  ·have z1 : decide ((60000 : Int) < (l0.length : Int)) = false := decide_eq_false (by omega)
   by_cases hL0 : l0.length = 0
   ·have z2 : ((l0.length : Int) == 0) = true := by rw [beq_iff_eq]; omega
    have HL0 := zA hL0
    clear hL0
    have hh := HH.out
    rw [show soFarM l0 = ([], false, 0, 0) by unfold soFarM; rw [if_neg h1, if_pos (.inl HL0.out)]] at hh
    injection hh with t1 t2
    injection t2 with t2 t3
    injection t3 with t3 t4
    subst t1; subst t2; subst t3; subst t4
    go_wp2
    obtain ⟨e0_, e1_, e2_⟩ := segTold HB1.out (Kd.S_nil _ _ _ _ _) HQ.out hgq (.int .i64 0) (.int .i64 0)
    refine bodyPost_ret (results_list (rs := [.tmp 2, .tmp 3, .cell 4 82]) rfl (by simp) (.tmp (.tmp (.cell gq 82 #[.int .i64 0, .int .i64 0] (0, 0) _ rfl (by exact e2_) Try.underlying82 rfl (by kernel_rfl) .nil)))) rfl ?_
    exact ⟨_, rfl, by first | exact e0_ | exact yA e0_, by first | exact e1_ | exact below_drew e1_⟩
   ·have z2 : ((l0.length : Int) == 0) = false := by rw [beq_eq_false_iff_ne]; omega
    obtain ⟨ad, e1, hx0⟩ := Kd.at_int (Kd.C_below HR0.out HB1.out) 0 (by omega) (by omega)
    cases e1
    rw [show (0 : Int).toNat = 0 from rfl, Addr.add_zero'] at hx0
    obtain ⟨y0, hy0⟩ : ∃ y0, y0 = rd l0 0 := ⟨_, rfl⟩
    rw [← hy0] at hx0
    have HY0 := zA hy0
    clear hy0
    by_cases hL1 : l0.length = 1
    ·have z3 : ((l0.length : Int) == 1) = true := by rw [beq_iff_eq]; omega
     have z4 : decide ((l0.length : Int) < 2) = true := zT (by omega)
     have HL1 := zA hL1
     clear hL1
     by_cases h84 : y0 = 84
     ·subst h84
      have hh := HH.out
      rw [show soFarM l0 = ([], false, 0, 0) by unfold soFarM; rw [if_neg h1, if_pos (.inr ⟨HL1.out, HY0.out.symm⟩)]] at hh
      injection hh with t1 t2
      injection t2 with t2 t3
      injection t3 with t3 t4
      subst t1; subst t2; subst t3; subst t4
      go_wp2
      obtain ⟨e0_, e1_, e2_⟩ := segTold HB1.out (Kd.S_nil _ _ _ _ _) HQ.out hgq (.int .i64 0) (.int .i64 0)
      refine bodyPost_ret (results_list (rs := [.tmp 2, .tmp 3, .cell 4 82]) rfl (by simp) (.tmp (.tmp (.cell gq 82 #[.int .i64 0, .int .i64 0] (0, 0) _ rfl (by exact e2_) Try.underlying82 rfl (by kernel_rfl) .nil)))) rfl ?_
      exact ⟨_, rfl, by first | exact e0_ | exact yA e0_, by first | exact e1_ | exact below_drew e1_⟩
     ·have z5 : (y0 == 84) = false := by rw [beq_eq_false_iff_ne]; exact h84
      have hh := HH.out
      rw [show soFarM l0 = ([], false, 2, 0) by unfold soFarM; rw [if_neg h1, if_neg (fun hc => hc.elim hL0 (fun h => h84 (HY0.out.trans h.2))), if_pos (.inl (by have := HL1.out; omega))]] at hh
      injection hh with t1 t2
      injection t2 with t2 t3
      injection t3 with t3 t4
      subst t1; subst t2; subst t3; subst t4
      go_wp2
      obtain ⟨e0_, e1_, e2_⟩ := segTold HB1.out (Kd.S_nil _ _ _ _ _) HQ.out hgq (.int .i64 2) (.int .i64 0)
      refine bodyPost_ret (results_list (rs := [.tmp 2, .tmp 3, .cell 4 82]) rfl (by simp) (.tmp (.tmp (.cell gq 82 #[.int .i64 2, .int .i64 0] (0, 0) _ rfl (by exact e2_) Try.underlying82 rfl (by kernel_rfl) .nil)))) rfl ?_
      exact ⟨_, rfl, by first | exact e0_ | exact yA e0_, by first | exact e1_ | exact below_drew e1_⟩
    ·have z3 : ((l0.length : Int) == 1) = false := by rw [beq_eq_false_iff_ne]; omega
     have z4 : decide ((l0.length : Int) < 2) = false := decide_eq_false (by omega)
     have hn2 : ¬ (l0.length = 0 ∨ l0.length = 1 ∧ rd l0 0 = 84) := fun hc => hc.elim hL0 (fun h => hL1 h.1)
     have HN2 := zA hn2
     obtain ⟨ad', e2, hx1⟩ := Kd.at_int (Kd.C_below HR0.out HB1.out) 1 (by omega) (by omega)
     cases e2
     have ea := add_field ad 0 1 (by omega)
     rw [Nat.zero_add, Addr.add_zero'] at ea
     rw [show (1 : Int).toNat = 1 from rfl, ea] at hx1
     obtain ⟨y1, hy1⟩ : ∃ y1, y1 = rd l0 1 := ⟨_, rfl⟩
     rw [← hy1] at hx1
     have HY1 := zA hy1
     clear hy1 hn2 ea
     by_cases h84 : y0 = 84
     ·subst h84
      by_cases h83 : y1 = 83
      ·subst h83
       have HIS := zA (show sfI l0 (l0.length + 1) 2 [] = (r1, r2, r3, r4) by
        have hh := HH.out
        rwa [show soFarM l0 = sfI l0 (l0.length + 1) 2 [] by unfold soFarM; rw [if_neg h1, if_neg HN2.out, if_neg (by rw [← HY0.out, ← HY1.out]; simp; omega)]] at hh)
       have z6 : ((83 : Int) != 83) = false := by decide
       have hl60 : l0.length ≤ 60000 := by omega
       have hl2 : 2 ≤ l0.length := by omega
       go_upto_region 7 with (fail)
       have kg := blk_new W1 (Obj.cells #[.slice (some ad) l0.length c0, .int .i64 2, .slice none 0 0] 182)
       have HSG := zA (show SegK w (W1.alloc (Obj.cells #[.slice (some ad) l0.length c0, .int .i64 2, .slice none 0 0] 182)) W1.heap.size gq (some ad) c0 l0 2 [] from ⟨zC HB1.out _, .slice none 0 0, kg, Kd.S_nil _ _ _ _ _, zD HQ.out _⟩)
       have hqg : gq ≠ W1.heap.size := by have := blk_lt HQ.out; omega
       have hg : w.heap.size ≤ W1.heap.size := HB1.out.size
       clear kg
       go_wp2
       generalize W1.heap.size = g at HSG hqg hg ⊢
       generalize W1.alloc (Obj.cells #[.slice (some ad) l0.length c0, .int .i64 2, .slice none 0 0] 182) = W3 at HSG ⊢
       clear HB1 HQ r0 r1c f0 f1 hx0 hx1 HH HN2 z1 z2 z3 z4 z6
       go_loopg [] (l0.length + 1) (fun kq w' => ∃ (at_ : Nat) (l : List S177), at_ ≤ l0.length ∧ l.length ≤ 300 ∧ l0.length < at_ + kq ∧ Aside0 (SegK w w' g gq (some ad) c0 l0 at_ l) ∧ Aside0 (sfI l0 kq at_ l = (r1, r2, r3, r4)))
       case atStart => exact ⟨2, [], hl2, by simp, by omega, HSG, HIS⟩
       case round =>
        clear HSG HIS
        obtain ⟨at_, l, hat, hl, hfu, HSG, HIS⟩ := hrel
        cases gk with
        | zero => omega
        | succ k1 =>
        obtain ⟨hn1, hn2, hn3⟩ := nxt_facts l0 at_ l hat hl
        have his := HIS.out
        rw [sfI] at his
        go_wp2_with fail
        refine (next_calls w _ g gq (some ad) c0 l0 at_ l HSG.out hg hqg HR0.out HC0.out hat hl60 HBB.out hl).mono ?_
        rintro e_ w2 ⟨rfl, hs⟩
        obtain ⟨fin_, hfin⟩ : ∃ q, q = (nxt l0 at_ l).1 := ⟨_, rfl⟩
        obtain ⟨code, hcode⟩ : ∃ q, q = (nxt l0 at_ l).2.1 := ⟨_, rfl⟩
        obtain ⟨pos, hpos⟩ : ∃ q, q = (nxt l0 at_ l).2.2.1 := ⟨_, rfl⟩
        obtain ⟨at2, hat2⟩ : ∃ q, q = (nxt l0 at_ l).2.2.2.1 := ⟨_, rfl⟩
        obtain ⟨l2, hl2_⟩ : ∃ q, q = (nxt l0 at_ l).2.2.2.2 := ⟨_, rfl⟩
        rw [← hfin, ← hcode, ← hpos, ← hat2, ← hl2_] at his
        rw [← hat2, ← hl2_] at hs
        rw [← hat2] at hn1 hn3
        rw [← hl2_] at hn2
        rw [← hcode, ← hfin] at hn3
        rw [← hfin, ← hcode, ← hpos]
        have HS2 := zA hs
        have HIS2 := zA his
        have HN3 := zA hn3
        clear hs his hfin hcode hpos hat2 hl2_ HSG HIS hn3
        go_upto_region 9 with (fail)
        obtain ⟨hb2, v2, hk2, hsl, hq2⟩ := HS2.out
        obtain ⟨Al, cl, el⟩ := Kd.S_slice hsl
        subst el
        have hf := blk_new w2 (Obj.cells #[.int .i64 code, .int .i64 pos] 82)
        have HB5 := zA (zC hb2 (Obj.cells #[.int .i64 code, .int .i64 pos] 82))
        have HK5 := zA (zD hk2 (Obj.cells #[.int .i64 code, .int .i64 pos] 82))
        have HS5 := zA (zY hsl (Obj.cells #[.int .i64 code, .int .i64 pos] 82))
        have HQ5 := zA (zD hq2 (Obj.cells #[.int .i64 code, .int .i64 pos] 82))
        have hqf : gq ≠ w2.heap.size := by have := blk_lt hq2; omega
        clear hb2 hk2 hsl hq2 HS2
        generalize w2.heap.size = gf at hf hqf ⊢
        generalize w2.alloc (Obj.cells #[.int .i64 code, .int .i64 pos] 82) = W5 at hf HB5 HK5 HS5 HQ5 ⊢
        have h0 := zK hf 0
        have h1c := zK hf 1
        simp at h0 h1c
        have s1 := zK HK5.out 1
        have s2 := zK HK5.out 2
        simp at s1 s2
        have q4 := zJ HK5.out 2
        have r0 := zK HQ5.out 0
        have r1c := zK HQ5.out 1
        simp at r0 r1c
        have f0 := zJ HQ5.out 0
        have f1 := zJ HQ5.out 1
        have HF := zA hf
        clear hf
        by_cases hc3 : code = 3
        ·subst hc3
         have HMV := zA (mayRest_val l2 hn2)
         have HC5 := zA (Kd.S_reads' HS5.out).2.2
         have HL5 := zA (Kd.S_reads' HS5.out).2.1
         cases hmr : mayRestM l2 with
         | false =>
          rw [hmr] at HMV
          have his := HIS2.out
          rw [if_pos rfl, if_neg (fun h => by rw [hmr] at h; exact absurd h.1 (by decide))] at his
          injection his with t1 t2
          injection t2 with t2 t3
          injection t3 with t3 t4
          subst t1; subst t2; subst t3; subst t4
          clear hmr
          go_wp2_with fail
          refine (impl_mayRestart.calls Al cl l2 false _ (by repeat (first | exact HC5.out | (with_reducible refine yF ?_ _) | (with_reducible refine yG ?_))) HL5.out HMV.out).mono ?_
          rintro e_ w_ ⟨rfl, ⟨n1, rfl⟩⟩
          go_wp2
          obtain ⟨e0_, e1_, e2_⟩ := segTold (zB HB5.out n1) (zZ HS5.out n1) (show (W5.drewN n1).heap[gq]? = _ from HQ5.out) hgq (.int .i64 0) (.int .i64 0)
          refine bodyPost_ret (results_list (rs := [.tmp 2, .tmp 3, .cell 4 82]) rfl (by simp) (.tmp (.tmp (.cell gq 82 #[.int .i64 0, .int .i64 0] (0, 0) _ rfl (by exact e2_) Try.underlying82 rfl (by kernel_rfl) .nil)))) rfl ?_
          exact ⟨_, rfl, by first | exact e0_ | exact yA e0_, by first | exact e1_ | exact below_drew e1_⟩
         | true =>
          rw [hmr] at HMV
          by_cases hsh : l0.length - at2 < 2
          ·have hne : l2 ≠ [] := by intro e; rw [e] at hmr; simp [mayRestM] at hmr
           have hl2p : 0 < l2.length := List.length_pos_iff.2 hne
           have hcl5 := HL5.out
           have zs : decide ((l0.length : Int) - (at2 : Int) < 2) = true := zT (by omega)
           have his := HIS2.out
           rw [if_pos rfl, if_pos ⟨hmr, hsh⟩] at his
           injection his with t1 t2
           injection t2 with t2 t3
           injection t3 with t3 t4
           subst t1; subst t2; subst t3; subst t4
           clear hmr hne
           go_wp2_with fail
           refine (impl_mayRestart.calls Al cl l2 true _ (by repeat (first | exact HC5.out | (with_reducible refine yF ?_ _) | (with_reducible refine yG ?_))) HL5.out HMV.out).mono ?_
           rintro e_ w_ ⟨rfl, ⟨n1, rfl⟩⟩
           go_wp2
           have hz8 : Kd.S k177 177 ((W5.drewN n1).setCell ⟨g, 2, none⟩ (.slice Al (l2.length - 1) cl)) w.heap.size (fun _ => True) (.slice Al (l2.length - 1) cl) l2.dropLast := by
            rw [List.dropLast_eq_take]
            exact Kd.S_set (Kd.S_take (zZ HS5.out n1) (by omega)) (show (W5.drewN n1).heap[g]? = _ from HK5.out) (by decide) 2 _
           have hq8 := blk_far (w := W5.drewN n1) HQ5.out (p := ⟨g, 2, none⟩) hqg (.slice Al (l2.length - 1) cl)
           have hb8 : Below w.heap.size w ((W5.drewN n1).setCell ⟨g, 2, none⟩ (.slice Al (l2.length - 1) cl)) := zE (zB HB5.out n1) hg
           obtain ⟨e0_, e1_, e2_⟩ := segTold hb8 hz8 hq8 hgq (.int .i64 0) (.int .i64 0)
           refine bodyPost_ret (results_list (rs := [.tmp 2, .tmp 3, .cell 4 82]) rfl (by simp) (.tmp (.tmp (.cell gq 82 #[.int .i64 0, .int .i64 0] (0, 0) _ rfl (by exact e2_) Try.underlying82 rfl (by kernel_rfl) .nil)))) rfl ?_
           exact ⟨_, rfl, by first | exact e0_ | exact yA e0_, by first | exact e1_ | exact below_drew e1_⟩
          ·have zs : decide ((l0.length : Int) - (at2 : Int) < 2) = false := decide_eq_false (by omega)
           have his := HIS2.out
           rw [if_pos rfl, if_neg (fun h => hsh h.2)] at his
           injection his with t1 t2
           injection t2 with t2 t3
           injection t3 with t3 t4
           subst t1; subst t2; subst t3; subst t4
           clear hmr
           go_wp2_with fail
           refine (impl_mayRestart.calls Al cl l2 true _ (by repeat (first | exact HC5.out | (with_reducible refine yF ?_ _) | (with_reducible refine yG ?_))) HL5.out HMV.out).mono ?_
           rintro e_ w_ ⟨rfl, ⟨n1, rfl⟩⟩
           go_wp2
           obtain ⟨e0_, e1_, e2_⟩ := segTold (zB HB5.out n1) (zZ HS5.out n1) (show (W5.drewN n1).heap[gq]? = _ from HQ5.out) hgq (.int .i64 0) (.int .i64 0)
           refine bodyPost_ret (results_list (rs := [.tmp 2, .tmp 3, .cell 4 82]) rfl (by simp) (.tmp (.tmp (.cell gq 82 #[.int .i64 0, .int .i64 0] (0, 0) _ rfl (by exact e2_) Try.underlying82 rfl (by kernel_rfl) .nil)))) rfl ?_
           exact ⟨_, rfl, by first | exact e0_ | exact yA e0_, by first | exact e1_ | exact below_drew e1_⟩
        ·have z3 : (code == 3) = false := by rw [beq_eq_false_iff_ne]; exact hc3
         by_cases hc0 : code = 0
         ·subst hc0
          cases fin_ with
          | true =>
           by_cases hlt : at2 < l0.length
           ·have zl : decide ((at2 : Int) < (l0.length : Int)) = true := zT (by omega)
            have his := HIS2.out
            rw [if_neg hc3, if_neg (by simp), if_pos rfl, if_pos hlt] at his
            injection his with t1 t2
            injection t2 with t2 t3
            injection t3 with t3 t4
            subst t1; subst t2; subst t3; subst t4
            go_wp2
            go_region
            go_wp2
            obtain ⟨e0_, e1_, e2_⟩ := segTold HB5.out HS5.out HQ5.out hgq (.int .i64 7) (.int .i64 at2)
            refine bodyPost_ret (results_list (rs := [.tmp 2, .tmp 3, .cell 4 82]) rfl (by simp) (.tmp (.tmp (.cell gq 82 #[.int .i64 7, .int .i64 at2] (0, 0) _ rfl (by exact e2_) Try.underlying82 rfl (by kernel_rfl) .nil)))) rfl ?_
            exact ⟨_, rfl, by first | exact e0_ | exact yA e0_, by first | exact e1_ | exact below_drew e1_⟩
           ·have zl : decide ((at2 : Int) < (l0.length : Int)) = false := decide_eq_false (by omega)
            have his := HIS2.out
            rw [if_neg hc3, if_neg (by simp), if_pos rfl, if_neg hlt] at his
            injection his with t1 t2
            injection t2 with t2 t3
            injection t3 with t3 t4
            subst t1; subst t2; subst t3; subst t4
            go_wp2
            obtain ⟨e0_, e1_, e2_⟩ := segTold HB5.out HS5.out HQ5.out hgq (.int .i64 0) (.int .i64 0)
            refine bodyPost_ret (results_list (rs := [.tmp 2, .tmp 3, .cell 4 82]) rfl (by simp) (.tmp (.tmp (.cell gq 82 #[.int .i64 0, .int .i64 0] (0, 0) _ rfl (by exact e2_) Try.underlying82 rfl (by kernel_rfl) .nil)))) rfl ?_
            exact ⟨_, rfl, by first | exact e0_ | exact yA e0_, by first | exact e1_ | exact below_drew e1_⟩
          | false =>
           have hn4 := HN3.out rfl rfl
           have his := HIS2.out
           rw [if_neg hc3, if_neg (by simp), if_neg (by simp)] at his
           have HIS3 := zA his
           clear his
           go_wp2
           go_roundg k1
           case rel => exact ⟨at2, l2, hn1, hn2, by omega, ⟨HB5.out, _, HK5.out, HS5.out, HQ5.out⟩, HIS3⟩
           case measure => omega
         ·have z0 : (code != 0) = true := by simp [hc0]
          have his := HIS2.out
          rw [if_neg hc3, if_pos hc0] at his
          injection his with t1 t2
          injection t2 with t2 t3
          injection t3 with t3 t4
          subst t1; subst t2; subst t3; subst t4
          go_wp2
          go_region
          go_wp2
          obtain ⟨e0_, e1_, e2_⟩ := segTold HB5.out HS5.out HQ5.out hgq (.int .i64 code) (.int .i64 pos)
          refine bodyPost_ret (results_list (rs := [.tmp 2, .tmp 3, .cell 4 82]) rfl (by simp) (.tmp (.tmp (.cell gq 82 #[.int .i64 code, .int .i64 pos] (0, 0) _ rfl (by exact e2_) Try.underlying82 rfl (by kernel_rfl) .nil)))) rfl ?_
          exact ⟨_, rfl, by first | exact e0_ | exact yA e0_, by first | exact e1_ | exact below_drew e1_⟩
      ·have z6 : (y1 != 83) = true := by simp [h83]
       have hh := HH.out
       rw [show soFarM l0 = ([], false, 2, 0) by unfold soFarM; rw [if_neg h1, if_neg HN2.out, if_pos (.inr (.inr (by rw [← HY1.out]; exact h83)))]] at hh
       injection hh with t1 t2
       injection t2 with t2 t3
       injection t3 with t3 t4
       subst t1; subst t2; subst t3; subst t4
       go_wp2
       obtain ⟨e0_, e1_, e2_⟩ := segTold HB1.out (Kd.S_nil _ _ _ _ _) HQ.out hgq (.int .i64 2) (.int .i64 0)
       refine bodyPost_ret (results_list (rs := [.tmp 2, .tmp 3, .cell 4 82]) rfl (by simp) (.tmp (.tmp (.cell gq 82 #[.int .i64 2, .int .i64 0] (0, 0) _ rfl (by exact e2_) Try.underlying82 rfl (by kernel_rfl) .nil)))) rfl ?_
       exact ⟨_, rfl, by first | exact e0_ | exact yA e0_, by first | exact e1_ | exact below_drew e1_⟩
     ·have z5 : (y0 == 84) = false := by rw [beq_eq_false_iff_ne]; exact h84
      have z6 : (y0 != 84) = true := by simp [h84]
      have hh := HH.out
      rw [show soFarM l0 = ([], false, 2, 0) by unfold soFarM; rw [if_neg h1, if_neg HN2.out, if_pos (.inr (.inl (by rw [← HY0.out]; exact h84)))]] at hh
      injection hh with t1 t2
      injection t2 with t2 t3
      injection t3 with t3 t4
      subst t1; subst t2; subst t3; subst t4
      go_wp2
      obtain ⟨e0_, e1_, e2_⟩ := segTold HB1.out (Kd.S_nil _ _ _ _ _) HQ.out hgq (.int .i64 2) (.int .i64 0)
      refine bodyPost_ret (results_list (rs := [.tmp 2, .tmp 3, .cell 4 82]) rfl (by simp) (.tmp (.tmp (.cell gq 82 #[.int .i64 2, .int .i64 0] (0, 0) _ rfl (by exact e2_) Try.underlying82 rfl (by kernel_rfl) .nil)))) rfl ?_
      exact ⟨_, rfl, by first | exact e0_ | exact yA e0_, by first | exact e1_ | exact below_drew e1_⟩
 ·cases h
end Go.Proofs.Ytilimpjcdeeaiaa.G


namespace Go.Proofs.Ytilimpjcdeeaiaa.G
open Go.RowKit Go.Proofs.YtilimpjcdeeaiaaW.PrintWords Go.Proofs.YtilimpjcdeeaiaaW.PrintLast Go.Proofs.YtilimpjcdeeaiaaW.PrintMore
attribute [local go_sem] max2_int min2_int max_two min_two max_three min_three max_four min_four   -- for this text's walks alone
--import Derived.BigRegion
/-- a feed's numbers -/
def feedM (l : List Int) : Int × Bool × Int × Int := if 60000 < l.length then (0, false, 1, 0) else (((soFarM l).1.length : Int), (soFarM l).2.1, (soFarM l).2.2.1, (soFarM l).2.2.2)
set_option maxRecDepth 100000 in
set_option maxHeartbeats 4000000 in
theorem feedOf_calls (A : Option Addr) (c : Nat) (l : List Int) (w : World) (hr : Kd.C (Kd.int .u8) w A l.length l) (hc : l.length ≤ c) (hb : isB l = true) (hlen : l.length ≤ 60000) :
  Calls Try.prog 137 #[.slice A l.length c] w fun e w' => e = .returned (.agg #[.slice A l.length c, .int .i64 (feedM l).1, .bool (feedM l).2.1, .int .i64 (feedM l).2.2.1, .int .i64 (feedM l).2.2.2]) ∧ Below w.heap.size w w' := by
 obtain ⟨r1, hr1⟩ : ∃ r1, r1 = (soFarM l).1 := ⟨_, rfl⟩
 obtain ⟨r2, hr2⟩ : ∃ r2, r2 = (soFarM l).2.1 := ⟨_, rfl⟩
 obtain ⟨r3, hr3⟩ : ∃ r3, r3 = (soFarM l).2.2.1 := ⟨_, rfl⟩
 obtain ⟨r4, hr4⟩ : ∃ r4, r4 = (soFarM l).2.2.2 := ⟨_, rfl⟩
 have hm : feedM l = ((r1.length : Int), r2, r3, r4) := by unfold feedM; rw [if_neg (by omega), hr1, hr2, hr3, hr4]
 rw [hm]
 have HF := zA (show impl_SegsSoFar.f l = some (r1, r2, r3, r4) by unfold impl_SegsSoFar.f; rw [if_pos ⟨hb, by omega⟩, hr1, hr2, hr3, hr4])
 have HR := zA hr
 have HC := zA hc
 have z1 : decide ((60000 : Int) < (l.length : Int)) = false := decide_eq_false (by omega)
 clear hr1 hr2 hr3 hr4 hm hr hc hb
 go_enter Try.func137, Try.ntmps137
 go_upto_region 1 with (fail)
 have hq := blk_new w (Obj.cells #[.slice none 0 0, .int .i64 0, .bool false, .int .i64 0, .int .i64 0] 84)
 have HB1 := zA (zC (Below.refl w.heap.size w) (Obj.cells #[.slice none 0 0, .int .i64 0, .bool false, .int .i64 0, .int .i64 0] 84))
 have hgq0 : w.heap.size ≤ w.heap.size := Nat.le_refl _
 generalize hgqe : w.heap.size = gq at hq ⊢
 generalize w.alloc (Obj.cells #[.slice none 0 0, .int .i64 0, .bool false, .int .i64 0, .int .i64 0] 84) = W1 at hq HB1 ⊢
 have HQ := zA hq
 have hgq : w.heap.size ≤ gq := by omega
 clear hq hgqe
 go_wp2_with fail
 refine (impl_SegsSoFar.calls A c l r1 r2 r3 r4 _ (Kd.C_below HR.out HB1.out) HC.out HF.out).mono ?_
 rintro e_ w2 ⟨v, rfl, hs, hb2⟩
 obtain ⟨Al, cl, el⟩ := Kd.S_slice hs
 subst el
 have HQ2 := zA (blk_below HQ.out hb2)
 have HB2 := zA (Below.trans HB1.out (hb2.mono HB1.out.size))
 clear hs hb2
 go_upto_region 4 with (fail)
 have hf := blk_new w2 (Obj.cells #[.int .i64 r3, .int .i64 r4] 82)
 have HQ3 := zA (zD HQ2.out (Obj.cells #[.int .i64 r3, .int .i64 r4] 82))
 have HB3 := zA (zC HB2.out (Obj.cells #[.int .i64 r3, .int .i64 r4] 82))
 have hqf : gq ≠ w2.heap.size := by have := blk_lt HQ2.out; omega
 generalize w2.heap.size = gf at hf hqf ⊢
 generalize w2.alloc (Obj.cells #[.int .i64 r3, .int .i64 r4] 82) = W4 at hf HQ3 HB3 ⊢
 have h0 := zK hf 0
 have h1 := zK hf 1
 simp at h0 h1
 have q0 := zK HQ3.out 0
 have q1 := zK HQ3.out 1
 have q2 := zK HQ3.out 2
 have q3 := zK HQ3.out 3
 have q4 := zK HQ3.out 4
 simp at q0 q1 q2 q3 q4
 have f0 := zJ HQ3.out 0
 have f1 := zJ HQ3.out 1
 have f2 := zJ HQ3.out 2
 have f3 := zJ HQ3.out 3
 have f4 := zJ HQ3.out 4
 clear hf
 go_wp2
 have e1 := blk_set (blk_set (blk_set (blk_set (blk_set HQ3.out 0 (.slice A l.length c)) 1 (.int .i64 (r1.length : Int))) 2 (.bool r2)) 3 (.int .i64 r3)) 4 (.int .i64 r4)
 refine bodyPost_ret (results_cell_row rfl _ _ gq 84 #[.slice A l.length c, .int .i64 (r1.length : Int), .bool r2, .int .i64 r3, .int .i64 r4] (0, 0) _ rfl (by exact e1) Try.underlying84 rfl (by kernel_rfl)) rfl ?_
 exact ⟨rfl, zE (zE (zE (zE (zE HB3.out hgq) hgq) hgq) hgq) hgq⟩
end Go.Proofs.Ytilimpjcdeeaiaa.G


namespace Go.Proofs.Ytilimpjcdeeaiaa.G
open Go.RowKit Go.Proofs.YtilimpjcdeeaiaaW.PrintWords Go.Proofs.YtilimpjcdeeaiaaW.PrintLast Go.Proofs.YtilimpjcdeeaiaaW.PrintMore
attribute [local go_sem] max2_int min2_int max_two min_two max_three min_three max_four min_four   -- for this text's walks alone
def spec_l02Kind.f (a0 : Int) : Option (Int) := if a0 = 0 then (some 3) else ((spec_l01Between.f a0 1 239).bind fun t1122 => (if t1122 = true then (some 1) else ((spec_l01Between.f a0 240 247).bind fun t1123 => (if t1123 = true then (some 2) else (some 0)))))
set_option maxHeartbeats 8000000 in
set_option maxRecDepth 100000 in
theorem spec_l02Kind.calls (a0 : Int) (r : Int) (w : World) (h : spec_l02Kind.f a0 = some r) :
  Calls Try.prog 162 #[.int .i64 a0] w fun e w' => e = .returned (.int .i64 r) ∧ Drawn0 w w' := by
 have H : (if a0 = 0 then (some 3) else ((spec_l01Between.f a0 1 239).bind fun t1122 => (if t1122 = true then (some 1) else ((spec_l01Between.f a0 240 247).bind fun t1123 => (if t1123 = true then (some 2) else (some 0)))))) = some r := h
 clear h
 by_cases c2 : a0 = 0
 ·rw [if_pos c2] at H
  have c2b0 : (a0 == 0) = true := beq_iff_eq.mpr c2
  have c2b1 : (a0 != 0) = false := bne_eq_false_iff_eq.mpr c2
  clear c2
  obtain rfl := Option.some.inj H
  go_enter Try.func162, Try.ntmps162
  go_wp2
  go_ret
  exact ⟨by first | rfl | (simp; done) | (simp [*]; done), by repeat (first | exact Drawn0.refl _ | apply Drawn0.step)⟩
 ·rw [if_neg c2] at H
  have c2b0 : (a0 == 0) = false := beq_eq_false_iff_ne.mpr c2
  have c2b1 : (a0 != 0) = true := bne_iff_ne.mpr c2
  replace H := Option.bind_eq_some_iff.mp H
  obtain ⟨t1122, A30, H⟩ := H
  replace H : (if t1122 = true then (some 1) else ((spec_l01Between.f a0 240 247).bind fun t1123 => (if t1123 = true then (some 2) else (some 0)))) = some r := H
  have A3 := zA A30
  clear A30
  by_cases c4 : t1122 = true
  ·subst c4
   have H1 : (some 1) = some r := by rw [if_pos rfl] at H; exact H
   clear H
   have H := H1
   clear H1
   obtain rfl := Option.some.inj H
   go_enter Try.func162, Try.ntmps162
   go_wp2_with (first | ((with_reducible refine gate_callee (f := 58) rfl ?_); refine goesL_ (some 8) rfl rfl Try.func58 (by kernel_rfl) rfl #[.int .i64 a0, .int .i64 1, .int .i64 239] rfl (by (try simp only [zU, zV, zW]); first | done | rfl | (simp only [zR, zQ]; rfl)) ?_; (with_reducible refine (spec_l01Between.calls a0 1 239 true _ A3.out).mono ?_); rintro e w' ⟨rfl, ⟨nd, rfl⟩⟩; refine ⟨_, rfl, ?_⟩))
   go_ret
   exact ⟨by first | rfl | (simp; done) | (simp [*]; done), by repeat (first | exact Drawn0.refl _ | apply Drawn0.step)⟩
  ·replace c4 := Bool.eq_false_iff.mpr c4
   subst c4
   have H1 : ((spec_l01Between.f a0 240 247).bind fun t1123 => (if t1123 = true then (some 2) else (some 0))) = some r := by rw [if_neg (show ¬ (false = true) by decide)] at H; exact H
   clear H
   have H := H1
   clear H1
   replace H := Option.bind_eq_some_iff.mp H
   obtain ⟨t1123, A50, H⟩ := H
   replace H : (if t1123 = true then (some 2) else (some 0)) = some r := H
   have A5 := zA A50
   clear A50
   by_cases c6 : t1123 = true
   ·subst c6
    have H1 : (some 2) = some r := by rw [if_pos rfl] at H; exact H
    clear H
    have H := H1
    clear H1
    obtain rfl := Option.some.inj H
    go_enter Try.func162, Try.ntmps162
    go_wp2_with (first | ((with_reducible refine gate_callee (f := 58) rfl ?_); refine goesL_ (some 8) rfl rfl Try.func58 (by kernel_rfl) rfl #[.int .i64 a0, .int .i64 1, .int .i64 239] rfl (by (try simp only [zU, zV, zW]); first | done | rfl | (simp only [zR, zQ]; rfl)) ?_; (with_reducible refine (spec_l01Between.calls a0 1 239 false _ A3.out).mono ?_); rintro e w' ⟨rfl, ⟨nd, rfl⟩⟩; refine ⟨_, rfl, ?_⟩) | ((with_reducible refine gate_callee (f := 58) rfl ?_); refine goesL_ (some 11) rfl rfl Try.func58 (by kernel_rfl) rfl #[.int .i64 a0, .int .i64 240, .int .i64 247] rfl (by (try simp only [zU, zV, zW]); first | done | rfl | (simp only [zR, zQ]; rfl)) ?_; (with_reducible refine (spec_l01Between.calls a0 240 247 true _ A5.out).mono ?_); rintro e w' ⟨rfl, ⟨nd, rfl⟩⟩; refine ⟨_, rfl, ?_⟩))
    go_ret
    exact ⟨by first | rfl | (simp; done) | (simp [*]; done), by repeat (first | exact Drawn0.refl _ | apply Drawn0.step)⟩
   ·replace c6 := Bool.eq_false_iff.mpr c6
    subst c6
    have H1 : (some 0) = some r := by rw [if_neg (show ¬ (false = true) by decide)] at H; exact H
    clear H
    have H := H1
    clear H1
    obtain rfl := Option.some.inj H
    go_enter Try.func162, Try.ntmps162
    go_wp2_with (first | ((with_reducible refine gate_callee (f := 58) rfl ?_); refine goesL_ (some 8) rfl rfl Try.func58 (by kernel_rfl) rfl #[.int .i64 a0, .int .i64 1, .int .i64 239] rfl (by (try simp only [zU, zV, zW]); first | done | rfl | (simp only [zR, zQ]; rfl)) ?_; (with_reducible refine (spec_l01Between.calls a0 1 239 false _ A3.out).mono ?_); rintro e w' ⟨rfl, ⟨nd, rfl⟩⟩; refine ⟨_, rfl, ?_⟩) | ((with_reducible refine gate_callee (f := 58) rfl ?_); refine goesL_ (some 11) rfl rfl Try.func58 (by kernel_rfl) rfl #[.int .i64 a0, .int .i64 240, .int .i64 247] rfl (by (try simp only [zU, zV, zW]); first | done | rfl | (simp only [zR, zQ]; rfl)) ?_; (with_reducible refine (spec_l01Between.calls a0 240 247 false _ A5.out).mono ?_); rintro e w' ⟨rfl, ⟨nd, rfl⟩⟩; refine ⟨_, rfl, ?_⟩))
    go_ret
    exact ⟨by first | rfl | (simp; done) | (simp [*]; done), by repeat (first | exact Drawn0.refl _ | apply Drawn0.step)⟩
end Go.Proofs.Ytilimpjcdeeaiaa.G


namespace Go.Proofs.Ytilimpjcdeeaiaa.G
open Go.RowKit Go.Proofs.YtilimpjcdeeaiaaW.PrintWords Go.Proofs.YtilimpjcdeeaiaaW.PrintLast Go.Proofs.YtilimpjcdeeaiaaW.PrintMore
attribute [local go_sem] max2_int min2_int max_two min_two max_three min_three max_four min_four   -- for this text's walks alone
def spec_l02Fits.f (a0 : Int) (a1 : Int) : Option (Bool) := if a1 = 1 then (some true) else (if a1 = 2 then (some (a0 == 3)) else (if a1 = 3 then (if a0 = 1 then (some true) else (some (a0 == 2))) else (some false)))
set_option maxHeartbeats 8000000 in
set_option maxRecDepth 100000 in
theorem spec_l02Fits.calls (a0 : Int) (a1 : Int) (r : Bool) (w : World) (h : spec_l02Fits.f a0 a1 = some r) :
  Calls Try.prog 167 #[.int .i64 a0, .int .i64 a1] w fun e w' => e = .returned (.bool r) ∧ Drawn0 w w' := by
 have H : (if a1 = 1 then (some true) else (if a1 = 2 then (some (a0 == 3)) else (if a1 = 3 then (if a0 = 1 then (some true) else (some (a0 == 2))) else (some false)))) = some r := h
 clear h
 by_cases c3 : a1 = 1
 ·rw [if_pos c3] at H
  have c3b0 : (a1 == 1) = true := beq_iff_eq.mpr c3
  have c3b1 : (a1 != 1) = false := bne_eq_false_iff_eq.mpr c3
  clear c3
  obtain rfl := Option.some.inj H
  go_enter Try.func167, Try.ntmps167
  go_wp2
  go_ret
  exact ⟨by first | rfl | (simp; done) | (simp [*]; done), by repeat (first | exact Drawn0.refl _ | apply Drawn0.step)⟩
 ·rw [if_neg c3] at H
  have c3b0 : (a1 == 1) = false := beq_eq_false_iff_ne.mpr c3
  have c3b1 : (a1 != 1) = true := bne_iff_ne.mpr c3
  by_cases c4 : a1 = 2
  ·rw [if_pos c4] at H
   have c4b0 : (a1 == 2) = true := beq_iff_eq.mpr c4
   have c4b1 : (a1 != 2) = false := bne_eq_false_iff_eq.mpr c4
   clear c4
   obtain rfl := Option.some.inj H
   go_enter Try.func167, Try.ntmps167
   go_wp2
   go_ret
   exact ⟨by first | rfl | (simp; done) | (simp [*]; done), by repeat (first | exact Drawn0.refl _ | apply Drawn0.step)⟩
  ·rw [if_neg c4] at H
   have c4b0 : (a1 == 2) = false := beq_eq_false_iff_ne.mpr c4
   have c4b1 : (a1 != 2) = true := bne_iff_ne.mpr c4
   by_cases c5 : a1 = 3
   ·rw [if_pos c5] at H
    have c5b0 : (a1 == 3) = true := beq_iff_eq.mpr c5
    have c5b1 : (a1 != 3) = false := bne_eq_false_iff_eq.mpr c5
    clear c5
    by_cases c6 : a0 = 1
    ·rw [if_pos c6] at H
     have c6b0 : (a0 == 1) = true := beq_iff_eq.mpr c6
     have c6b1 : (a0 != 1) = false := bne_eq_false_iff_eq.mpr c6
     clear c6
     obtain rfl := Option.some.inj H
     go_enter Try.func167, Try.ntmps167
     go_wp2
     go_ret
     exact ⟨by first | rfl | (simp; done) | (simp [*]; done), by repeat (first | exact Drawn0.refl _ | apply Drawn0.step)⟩
    ·rw [if_neg c6] at H
     have c6b0 : (a0 == 1) = false := beq_eq_false_iff_ne.mpr c6
     have c6b1 : (a0 != 1) = true := bne_iff_ne.mpr c6
     obtain rfl := Option.some.inj H
     go_enter Try.func167, Try.ntmps167
     go_wp2
     go_ret
     exact ⟨by first | rfl | (simp; done) | (simp [*]; done), by repeat (first | exact Drawn0.refl _ | apply Drawn0.step)⟩
   ·rw [if_neg c5] at H
    have c5b0 : (a1 == 3) = false := beq_eq_false_iff_ne.mpr c5
    have c5b1 : (a1 != 3) = true := bne_iff_ne.mpr c5
    obtain rfl := Option.some.inj H
    go_enter Try.func167, Try.ntmps167
    go_wp2
    go_ret
    exact ⟨by first | rfl | (simp; done) | (simp [*]; done), by repeat (first | exact Drawn0.refl _ | apply Drawn0.step)⟩
end Go.Proofs.Ytilimpjcdeeaiaa.G


namespace Go.Proofs.Ytilimpjcdeeaiaa.G
open Go.RowKit Go.Proofs.YtilimpjcdeeaiaaW.PrintWords Go.Proofs.YtilimpjcdeeaiaaW.PrintLast Go.Proofs.YtilimpjcdeeaiaaW.PrintMore
attribute [local go_sem] max2_int min2_int max_two min_two max_three min_three max_four min_four   -- for this text's walks alone
def spec_Unstuff.l0 : Nat → List Int → List Int → Int → Option (List Int × Int)
 | 0, _, _, _ => none
 | k + 1, x0, x4, x5 => if x5 < (x0.length : Int) then (if 0 ≤ x5 then (if (rd x0 x5) = 255 then (if (wrap64 (x5 + 1)) ≥ (x0.length : Int) then (some (x4, x5)) else (if 0 ≤ (wrap64 (x5 + 1)) then (if (wrap64 (x5 + 1)) < (x0.length : Int) then (if (rd x0 (wrap64 (x5 + 1))) = 0 then (if x4.length < 140737488355328 then (spec_Unstuff.l0 k x0 (x4 ++ [255]) (wrap64 ((wrap64 (x5 + 1)) + 1))) else (none)) else (some (x4, x5))) else (none)) else (none))) else (if x4.length < 140737488355328 then (spec_Unstuff.l0 k x0 (x4 ++ [rd x0 x5]) (wrap64 (x5 + 1))) else (none))) else (none)) else (some (x4, x5))
def spec_Unstuff.f (k : Nat) (l0 : List Int) : Option (List Int × Int) := spec_Unstuff.l0 k l0 (([] : List Int)) 0
theorem spec_Unstuff.mono_l : ∀ k, (∀ y0 y1 y2, LeO (spec_Unstuff.l0 k y0 y1 y2) (spec_Unstuff.l0 (k + 1) y0 y1 y2))
 | 0 => fun _ _ _ r h => by simp [spec_Unstuff.l0] at h
 | k + 1 => by
  have ih0 := spec_Unstuff.mono_l k
  ·intro y0 y1 y2
   unfold spec_Unstuff.l0
   repeat' first
   | (with_reducible exact ih0 _ _ _)
   | (with_reducible exact LeO.refl _)
   | (with_reducible exact LeO.none _)
   | (with_reducible refine LeO.ite ?_ ?_)
   | (with_reducible refine LeO.bind ?_ (fun _ => ?_))
   | exact ih0 _ _ _
   | exact LeO.none _
   | refine LeO.ite ?_ ?_
   | refine LeO.bind ?_ (fun _ => ?_)
theorem spec_Unstuff.mono : ∀ a0 k, LeO (spec_Unstuff.f k a0) (spec_Unstuff.f (k + 1) a0) := by
 intro a0 k
 have ih0 := spec_Unstuff.mono_l k
 unfold spec_Unstuff.f
 repeat' first
   | (with_reducible exact ih0 _ _ _)
   | (with_reducible exact LeO.refl _)
   | (with_reducible exact LeO.none _)
   | (with_reducible refine LeO.ite ?_ ?_)
   | (with_reducible refine LeO.bind ?_ (fun _ => ?_))
   | exact ih0 _ _ _
   | exact LeO.none _
   | refine LeO.ite ?_ ?_
   | refine LeO.bind ?_ (fun _ => ?_)
set_option maxHeartbeats 8000000 in
set_option maxRecDepth 100000 in
theorem spec_Unstuff.calls (k : Nat) (A0 : Option Addr) (c0 : Nat) (l0 : List Int) (r1 : List Int) (r2 : Int) (w : World) (hr0 : Kd.C (Kd.int .u8) w A0 l0.length l0) (hc0 : l0.length ≤ c0) (h : spec_Unstuff.f k l0 = some (r1, r2)) :
  Calls Try.prog 168 #[.slice A0 l0.length c0] w fun e w' => ∃ v0_ : Value, e = .returned (.tuple #[v0_, .int .i64 r2]) ∧ Kd.R (Kd.int .u8) 5 w' w.heap.size (fun _ => True) v0_ r1 ∧ Below w.heap.size w w' := by
 have HR0 := zA hr0
 have HC0 := zA hc0
 clear hr0 hc0
 have HB := zA (Below.refl w.heap.size w)
 have H : (spec_Unstuff.l0 k l0 (([] : List Int)) 0) = some (r1, r2) := h
 clear h
 obtain ⟨y1124, hy1124⟩ : ∃ y_ : List Int, y_ = (([] : List Int)) := ⟨_, rfl⟩
 replace H : (spec_Unstuff.l0 k l0 y1124 0) = some (r1, r2) := by first | (rw [hy1124]; with_reducible exact H) | (have H2_ := (zS _ _).symm.trans H; rw [hy1124]; with_reducible exact H2_) | (have H2_ := (zS _ _).symm.trans H; with_reducible exact H2_) | with_reducible exact H | (rw [hy1124]; exact H) | exact H
 have Ny1124 := zA hy1124
 clear hy1124
 have H' := zA H
 clear H
 go_enter Try.func168, Try.ntmps168
 go_wp2_with (first | ((with_reducible refine gate_dst (N := 6) rfl ?_); refine Kd.R_lit (Kd.int .u8) _ 5 ?hg (N := 6) ?hd (xs := ([] : List Int)) (inner := []) (ok := fun _ => True) (okp := fun _ => True) ?hr ?hp (fun _ hk => hk) trivial (Below.refl _ _) (Nat.le_refl _) (by simp) ?_; (case hd => rfl); (case hg => rfl); (case hr => first | (go_simp; done) | (go_simp; rfl)); (case hp => exact (Reps.none _ _)); intro v1125 w2 ho3 hb hg_ hnew_; clear hg_ hnew_; (first | rw [← Ny1124.out] at ho3 | (simp only [Int.reduceToNat] at ho3; rw [← Ny1124.out] at ho3)); have n0_ := zA (Kd.R_lower ho3 (zL (by repeat (first | (with_reducible first | exact HB.out | apply zC | apply zB | apply zF) | exact HB.out)))); have n1_ := zA (below_step (by repeat (first | (with_reducible first | exact HB.out | apply zC | apply zB | apply zF) | exact HB.out)) hb); clear HB; have HO1126 := n0_; have HB := n1_; clear n0_ n1_; clear hb ho3))
 go_loopg [4, 5] k (fun kq v4 v5 w' => ∃ (x4_1 : List Int) (x5_1 : Int), v5 = .int .i64 x5_1 ∧ Aside0 (spec_Unstuff.l0 kq l0 x4_1 x5_1 = some (r1, r2)) ∧ Aside0 (kq ≤ k) ∧ Aside0 (Kd.R (Kd.int .u8) 5 w' w.heap.size (fun _ => True) v4 x4_1) ∧ Aside0 (Below w.heap.size w w'))
 case atStart => exact ⟨(y1124), (0), (by first | rfl | (simp; done) | (simp [*]; done)), H', ⟨Nat.le_refl _⟩, ⟨by (with_reducible repeat (first | apply zN | apply zM | apply zO)); exact HO1126.out⟩, ⟨by repeat (first | (with_reducible first | exact HB.out | apply zC | apply zB | apply zF) | exact HB.out)⟩⟩
 case round =>
  clear H'
  try clear c1
  try clear p2
  obtain ⟨x4_1, x5_1, rfl, HA, HK1, HO_4, HB⟩ := hrel
  cases gk with
  | zero => exact absurd HA.out (by simp [spec_Unstuff.l0])
  | succ k1 =>
   have H := HA.out
   clear HA
   simp only [spec_Unstuff.l0] at H
   by_cases c4 : x5_1 < (l0.length : Int)
   ·rw [if_pos c4] at H
    have c4b0 : decide (x5_1 < (l0.length : Int)) = true := zT c4
    clear c4
    by_cases c5 : 0 ≤ x5_1
    ·rw [if_pos c5] at H
     have c5b0 : decide (0 ≤ x5_1) = true := zT c5
     clear c5
     by_cases c6 : (rd l0 x5_1) = 255
     ·rw [if_pos c6] at H
      have c6b0 : ((rd l0 x5_1) == 255) = true := beq_iff_eq.mpr c6
      have c6b1 : ((rd l0 x5_1) != 255) = false := bne_eq_false_iff_eq.mpr c6
      clear c6
      by_cases c7 : (wrap64 (x5_1 + 1)) ≥ (l0.length : Int)
      ·rw [if_pos c7] at H
       have c7b0 : decide ((l0.length : Int) ≤ (wrap64 (x5_1 + 1))) = true := zT c7
       clear c7
       simp only [Option.some.injEq, Prod.mk.injEq] at H
       obtain ⟨rfl, rfl⟩ := H
       have p1127 : 0 ≤ (x5_1 : Int) := zI (by first | (with_reducible assumption) | assumption)
       have q1127 : x5_1 < (l0.length : Int) := zI (by first | (with_reducible assumption) | assumption)
       obtain ⟨ad1127, e1127, hx1127_0⟩ := Kd.at_int HR0.out x5_1 p1127 q1127
       cases e1127
       replace hx1127_0 := (HB.out.cell (World.block_lt_of_cell? w _ hx1127_0)).trans hx1127_0
       replace p1127 := eq_true p1127
       replace q1127 := eq_true q1127
       go_wp2
       go_ret2
       exact ⟨_, by first | rfl | (simp [errW_none, errW_some] <;> rfl) | (simp [*, errW_none, errW_some] <;> rfl), by (with_reducible repeat (first | apply zN | apply zM | apply zO)); exact HO_4.out, by repeat (first | (with_reducible first | exact HB.out | apply zC | apply zB | apply zF) | exact HB.out)⟩
      ·rw [if_neg c7] at H
       have c7b0 : decide ((l0.length : Int) ≤ (wrap64 (x5_1 + 1))) = false := decide_eq_false c7
       clear c7
       obtain ⟨ji8, hji8⟩ : ∃ j_ : Int, (wrap64 (x5_1 + 1)) = j_ := ⟨_, rfl⟩
       replace H : (if 0 ≤ (ji8) then (if (ji8) < (l0.length : Int) then (if (rd l0 (ji8)) = 0 then (if x4_1.length < 140737488355328 then (spec_Unstuff.l0 k1 l0 (x4_1 ++ [255]) (wrap64 ((ji8) + 1))) else (none)) else (some (x4_1, x5_1))) else (none)) else (none)) = some (r1, r2) := by first | (rw [hji8] at H; exact H) | (simp only [hji8] at H ⊢; exact H)
       (try rw [hji8] at c7b0)
       have hji8w : (IntKind.i64.wrap (x5_1 + 1)) = ji8 := (i64_w _).trans hji8
       by_cases c9 : 0 ≤ (ji8)
       ·rw [if_pos c9] at H
        have c9b0 : decide (0 ≤ (ji8)) = true := zT c9
        clear c9
        by_cases c10 : (ji8) < (l0.length : Int)
        ·rw [if_pos c10] at H
         have c10b0 : decide ((ji8) < (l0.length : Int)) = true := zT c10
         clear c10
         by_cases c11 : (rd l0 (ji8)) = 0
         ·rw [if_pos c11] at H
          have c11b0 : ((rd l0 (ji8)) == 0) = true := beq_iff_eq.mpr c11
          have c11b1 : ((rd l0 (ji8)) != 0) = false := bne_eq_false_iff_eq.mpr c11
          clear c11
          by_cases c12 : x4_1.length < 140737488355328
          ·rw [if_pos c12] at H
           have LMc12 := zA c12
           clear c12
           obtain ⟨y1129, hy1129⟩ : ∃ y_ : List Int, y_ = (x4_1 ++ [255]) := ⟨_, rfl⟩
           replace H : (spec_Unstuff.l0 k1 l0 y1129 (wrap64 ((ji8) + 1))) = some (r1, r2) := by first | (rw [hy1129]; with_reducible exact H) | (have H2_ := (zS _ _).symm.trans H; rw [hy1129]; with_reducible exact H2_) | (have H2_ := (zS _ _).symm.trans H; with_reducible exact H2_) | with_reducible exact H | (rw [hy1129]; exact H) | exact H
           have Ny1129 := zA hy1129
           clear hy1129
           have H' := zA H
           clear H
           have p1127 : 0 ≤ (x5_1 : Int) := zI (by first | (with_reducible assumption) | assumption)
           have q1127 : x5_1 < (l0.length : Int) := zI (by first | (with_reducible assumption) | assumption)
           obtain ⟨ad1127, e1127, hx1127_0⟩ := Kd.at_int HR0.out x5_1 p1127 q1127
           cases e1127
           replace hx1127_0 := (HB.out.cell (World.block_lt_of_cell? w _ hx1127_0)).trans hx1127_0
           replace p1127 := eq_true p1127
           replace q1127 := eq_true q1127
           have p1128 : 0 ≤ ((ji8) : Int) := zI (by first | (with_reducible assumption) | assumption)
           have q1128 : (ji8) < (l0.length : Int) := zI (by first | (with_reducible assumption) | assumption)
           obtain ⟨ad1128, e1128, hx1128_0⟩ := Kd.at_int HR0.out (ji8) p1128 q1128
           obtain rfl : ad1127 = ad1128 := (by injection e1128)
           replace hx1128_0 := (HB.out.cell (World.block_lt_of_cell? w _ hx1128_0)).trans hx1128_0
           replace p1128 := eq_true p1128
           replace q1128 := eq_true q1128
           go_wp2_with (first | ((with_reducible refine gate_builtin (b := .append) (xs := #[.tmp 33, .tmp 34]) rfl ?_); at_builtin; refine Kd.R_append (Kd.int .u8) (w0 := w) w.heap.size rfl (.tmp 33) (.tmp 34) 22 5 (.int .u8 0) 1 rfl Try.underlying22 info5 rfl (by decide) (by omega) u4 x4_1 255 [.int .u8 255] (fun _ => True) (fun _ => False) rfl rfl ?aP (fun _ hk => hk.elim) ?aF ?aO ?aB ?aS ?aL ?_; (case aP => exact rfl); (case aB => exact (by repeat (first | (with_reducible first | exact HB.out | apply zC | apply zB | apply zF) | exact HB.out))); (case aF => exact (fun _ _ => trivial)); (case aO => exact (by (with_reducible repeat (first | apply zN | apply zM | apply zO)); exact HO_4.out)); (case aS => exact (zL (by repeat (first | (with_reducible first | exact HB.out | apply zC | apply zB | apply zF) | exact HB.out)))); (case aL => have := LMc12.out; omega); intro v1130 w13 ho hb hg hat; rw [← Ny1129.out] at ho; have n0_ := zA (hb); have n1_ := zA (ho); clear HB; clear HO_4; have HB := n0_; have HO1131 := n1_; clear n0_ n1_; clear ho hb hg hat))
           go_roundg k1
           case measure => have := HK1.out; omega
           case rel => exact ⟨(y1129), (wrap64 ((ji8) + 1)), (by first | rfl | (simp; done) | (simp only [← hji8] <;> (first | rfl | simp)) | (simp [*]; done)), H', ⟨by have := HK1.out; omega⟩, ⟨by (with_reducible repeat (first | apply zN | apply zM | apply zO)); exact HO1131.out⟩, ⟨by repeat (first | (with_reducible first | exact HB.out | apply zC | apply zB | apply zF) | exact HB.out)⟩⟩
          ·rw [if_neg c12] at H
           exact absurd H (by simp)
         ·rw [if_neg c11] at H
          have c11b0 : ((rd l0 (ji8)) == 0) = false := beq_eq_false_iff_ne.mpr c11
          have c11b1 : ((rd l0 (ji8)) != 0) = true := bne_iff_ne.mpr c11
          simp only [Option.some.injEq, Prod.mk.injEq] at H
          obtain ⟨rfl, rfl⟩ := H
          have p1127 : 0 ≤ (x5_1 : Int) := zI (by first | (with_reducible assumption) | assumption)
          have q1127 : x5_1 < (l0.length : Int) := zI (by first | (with_reducible assumption) | assumption)
          obtain ⟨ad1127, e1127, hx1127_0⟩ := Kd.at_int HR0.out x5_1 p1127 q1127
          cases e1127
          replace hx1127_0 := (HB.out.cell (World.block_lt_of_cell? w _ hx1127_0)).trans hx1127_0
          replace p1127 := eq_true p1127
          replace q1127 := eq_true q1127
          have p1128 : 0 ≤ ((ji8) : Int) := zI (by first | (with_reducible assumption) | assumption)
          have q1128 : (ji8) < (l0.length : Int) := zI (by first | (with_reducible assumption) | assumption)
          obtain ⟨ad1128, e1128, hx1128_0⟩ := Kd.at_int HR0.out (ji8) p1128 q1128
          obtain rfl : ad1127 = ad1128 := (by injection e1128)
          replace hx1128_0 := (HB.out.cell (World.block_lt_of_cell? w _ hx1128_0)).trans hx1128_0
          replace p1128 := eq_true p1128
          replace q1128 := eq_true q1128
          go_wp2
          go_ret2
          exact ⟨_, by first | rfl | (simp [errW_none, errW_some] <;> rfl) | (simp only [← hji8]; first | rfl | (simp [errW_none, errW_some] <;> rfl)) | (simp [*, errW_none, errW_some] <;> rfl), by (with_reducible repeat (first | apply zN | apply zM | apply zO)); exact HO_4.out, by repeat (first | (with_reducible first | exact HB.out | apply zC | apply zB | apply zF) | exact HB.out)⟩
        ·rw [if_neg c10] at H
         exact absurd H (by simp)
       ·rw [if_neg c9] at H
        exact absurd H (by simp)
     ·rw [if_neg c6] at H
      have c6b0 : ((rd l0 x5_1) == 255) = false := beq_eq_false_iff_ne.mpr c6
      have c6b1 : ((rd l0 x5_1) != 255) = true := bne_iff_ne.mpr c6
      by_cases c14 : x4_1.length < 140737488355328
      ·rw [if_pos c14] at H
       have LMc14 := zA c14
       clear c14
       obtain ⟨y1133, hy1133⟩ : ∃ y_ : List Int, y_ = (x4_1 ++ [rd l0 x5_1]) := ⟨_, rfl⟩
       replace H : (spec_Unstuff.l0 k1 l0 y1133 (wrap64 (x5_1 + 1))) = some (r1, r2) := by first | (rw [hy1133]; with_reducible exact H) | (have H2_ := (zS _ _).symm.trans H; rw [hy1133]; with_reducible exact H2_) | (have H2_ := (zS _ _).symm.trans H; with_reducible exact H2_) | with_reducible exact H | (rw [hy1133]; exact H) | exact H
       have Ny1133 := zA hy1133
       clear hy1133
       have H' := zA H
       clear H
       have p1127 : 0 ≤ (x5_1 : Int) := zI (by first | (with_reducible assumption) | assumption)
       have q1127 : x5_1 < (l0.length : Int) := zI (by first | (with_reducible assumption) | assumption)
       obtain ⟨ad1127, e1127, hx1127_0⟩ := Kd.at_int HR0.out x5_1 p1127 q1127
       cases e1127
       replace hx1127_0 := (HB.out.cell (World.block_lt_of_cell? w _ hx1127_0)).trans hx1127_0
       replace p1127 := eq_true p1127
       replace q1127 := eq_true q1127
       have p1132 : 0 ≤ (x5_1 : Int) := zI (by first | (with_reducible assumption) | assumption)
       have q1132 : x5_1 < (l0.length : Int) := zI (by first | (with_reducible assumption) | assumption)
       obtain ⟨ad1132, e1132, hx1132_0⟩ := Kd.at_int HR0.out x5_1 p1132 q1132
       obtain rfl : ad1127 = ad1132 := (by injection e1132)
       replace hx1132_0 := (HB.out.cell (World.block_lt_of_cell? w _ hx1132_0)).trans hx1132_0
       replace p1132 := eq_true p1132
       replace q1132 := eq_true q1132
       go_wp2_with (first | ((with_reducible refine gate_builtin (b := .append) (xs := #[.tmp 36, .tmp 41]) rfl ?_); at_builtin; refine Kd.R_append (Kd.int .u8) (w0 := w) w.heap.size rfl (.tmp 36) (.tmp 41) 22 5 (.int .u8 0) 1 rfl Try.underlying22 info5 rfl (by decide) (by omega) u4 x4_1 (rd l0 x5_1) [.int .u8 (rd l0 x5_1)] (fun _ => True) (fun _ => False) rfl rfl ?aP (fun _ hk => hk.elim) ?aF ?aO ?aB ?aS ?aL ?_; (case aP => exact rfl); (case aB => exact (by repeat (first | (with_reducible first | exact HB.out | apply zC | apply zB | apply zF) | exact HB.out))); (case aF => exact (fun _ _ => trivial)); (case aO => exact (by (with_reducible repeat (first | apply zN | apply zM | apply zO)); exact HO_4.out)); (case aS => exact (zL (by repeat (first | (with_reducible first | exact HB.out | apply zC | apply zB | apply zF) | exact HB.out)))); (case aL => have := LMc14.out; omega); intro v1134 w15 ho hb hg hat; rw [← Ny1133.out] at ho; have n0_ := zA (hb); have n1_ := zA (ho); clear HB; clear HO_4; have HB := n0_; have HO1135 := n1_; clear n0_ n1_; clear ho hb hg hat))
       go_roundg k1
       case measure => have := HK1.out; omega
       case rel => exact ⟨(y1133), (wrap64 (x5_1 + 1)), (by first | rfl | (simp; done) | (simp [*]; done)), H', ⟨by have := HK1.out; omega⟩, ⟨by (with_reducible repeat (first | apply zN | apply zM | apply zO)); exact HO1135.out⟩, ⟨by repeat (first | (with_reducible first | exact HB.out | apply zC | apply zB | apply zF) | exact HB.out)⟩⟩
      ·rw [if_neg c14] at H
       exact absurd H (by simp)
    ·rw [if_neg c5] at H
     exact absurd H (by simp)
   ·rw [if_neg c4] at H
    have c4b0 : decide (x5_1 < (l0.length : Int)) = false := decide_eq_false c4
    clear c4
    simp only [Option.some.injEq, Prod.mk.injEq] at H
    obtain ⟨rfl, rfl⟩ := H
    go_wp2
    go_ret2
    exact ⟨_, by first | rfl | (simp [errW_none, errW_some] <;> rfl) | (simp [*, errW_none, errW_some] <;> rfl), by (with_reducible repeat (first | apply zN | apply zM | apply zO)); exact HO_4.out, by repeat (first | (with_reducible first | exact HB.out | apply zC | apply zB | apply zF) | exact HB.out)⟩
theorem un_spec (b : List Int) (hb : b.length ≤ 1048576) : Ev (fun k => spec_Unstuff.f k b) ((un b).1, ((un b).2 : Int)) := by
 unfold spec_Unstuff.f
 have key : ∀ n i : Nat, ∀ out : List Int, b.length - i ≤ n → i ≤ b.length → out.length ≤ i → Ev (fun k => spec_Unstuff.l0 k b out (i : Int)) (out ++ (un (b.drop i)).1, ((i + (un (b.drop i)).2 : Nat) : Int)) := by
  intro n
  induction n with
  | zero =>
   intro i out hn hi ho
   obtain rfl : i = b.length := by omega
   refine Ev.step (fun _ => by rw [spec_Unstuff.l0]) (Ev.ng (by omega) (Ev.eq (Ev.now _) ?_))
   rw [List.drop_length]
   simp [un]
  | succ n ih =>
   intro i out hn hi ho
   by_cases hlt : i < b.length
   ·refine Ev.step (fun _ => by rw [spec_Unstuff.l0]) (Ev.ip (by omega) (Ev.ip (by omega) ?_))
    rw [rd_nat b i hlt, wrap_succ i (by omega)]
    by_cases hx : b[i] = 255
    ·refine Ev.ip hx ?_
     by_cases he : i + 1 = b.length
     ·refine Ev.ip (by omega) (Ev.eq (Ev.now _) ?_)
      rw [drop_last b i hlt he, hx, un_one]
      simp
     ·refine Ev.ng (by omega) (Ev.ip (by omega) (Ev.ip (by omega) ?_))
      rw [rd_nat b (i + 1) (by omega)]
      by_cases hy : b[i + 1] = 0
      ·refine Ev.ip hy (Ev.ip (by omega) ?_)
       rw [wrap_succ (i + 1) (by omega)]
       refine Ev.eq (ih (i + 2) (out ++ [255]) (by omega) (by omega) (by simp; omega)) ?_
       rw [drop_two b i (by omega), hx, hy, un_two]
       simp
       omega
      ·refine Ev.ng hy (Ev.eq (Ev.now _) ?_)
       rw [drop_two b i (by omega), hx, un_stop _ _ hy]
       simp
    ·refine Ev.ng hx (Ev.ip (by omega) ?_)
     refine Ev.eq (ih (i + 1) (out ++ [b[i]]) (by omega) (by omega) (by simp; omega)) ?_
     rw [List.drop_eq_getElem_cons hlt, un_ne _ _ hx]
     simp
     omega
   ·obtain rfl : i = b.length := by omega
    refine Ev.step (fun _ => by rw [spec_Unstuff.l0]) (Ev.ng (by omega) (Ev.eq (Ev.now _) ?_))
    rw [List.drop_length]
    simp [un]
 have := key _ 0 [] (Nat.le_refl _) (by omega) (by simp)
 simpa using this
end Go.Proofs.Ytilimpjcdeeaiaa.G

