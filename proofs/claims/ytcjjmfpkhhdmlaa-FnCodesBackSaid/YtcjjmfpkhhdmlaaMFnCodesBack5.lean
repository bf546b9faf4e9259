/- FnCodesBack (P8): a text of codes reads back to the symbols it was written of; what has no code gives no text; for lengths and symbols drawn of any bytes. -/
import Derived.Deep.Slices
import Derived.ChangeArms
import Derived.Test.YtcjjmfpkhhdmlaaRows
import Derived.WalkKit
import Derived.ProofKit
import Derived.OpenShut
import Derived.ShutString
import Derived.ChangeOld
import Derived.Below
import Derived.SizedLaws
import Derived.Test.YtcjjmfpkhhdmlaaMFnCodesBack4
set_option linter.unusedVariables false
set_option linter.unusedSimpArgs false
namespace Go.Proofs.Ytcjjmfpkhhdmlaa.G
open Go.RowKit Go.Proofs.YtcjjmfpkhhdmlaaW.PrintWords Go.Proofs.YtcjjmfpkhhdmlaaW.PrintLast Go.Proofs.YtcjjmfpkhhdmlaaW.PrintMore
attribute [local go_sem] max2_int min2_int max_two min_two max_three min_three max_four min_four   -- for this text's walks alone
mutual
def spec_l01Pack.l0 : Nat → List Bool → List Int → Int → Option (List Int)
 | 0, _, _, _ => none
 | k + 1, x0, x3, x4 => if x4 < (x0.length : Int) then (spec_l01Pack.l1 k x0 x3 x4 0 0) else (some x3)
def spec_l01Pack.l1 : Nat → List Bool → List Int → Int → Int → Int → Option (List Int)
 | 0, _, _, _, _, _ => none
 | k + 1, x0, x3, x4, x5, x6 => if x6 < 8 then (if (wrap64 (x4 + x6)) ≥ (x0.length : Int) then (spec_l01Pack.l1 k x0 x3 x4 (wrap64 ((wrap64 (2 * x5)) + 1)) (wrap64 (x6 + 1))) else (if 0 ≤ (wrap64 (x4 + x6)) then (if (wrap64 (x4 + x6)) < (x0.length : Int) then (if rdOf false x0 (wrap64 (x4 + x6)) = true then (spec_l01Pack.l1 k x0 x3 x4 (wrap64 ((wrap64 (2 * x5)) + 1)) (wrap64 (x6 + 1))) else (spec_l01Pack.l1 k x0 x3 x4 (wrap64 (2 * x5)) (wrap64 (x6 + 1)))) else (none)) else (none))) else (if x3.length < 140737488355328 then (spec_l01Pack.l0 k x0 (x3 ++ [(x5) % 256]) (wrap64 (x4 + 8))) else (none))
end
def spec_l01Pack.f (k : Nat) (l0 : List Bool) : Option (List Int) := spec_l01Pack.l0 k l0 (([] : List Int)) 0
set_option maxHeartbeats 8000000 in
set_option maxRecDepth 100000 in
theorem spec_l01Pack.calls (k : Nat) (A0 : Option Addr) (c0 : Nat) (l0 : List Bool) (r : List Int) (w : World) (hr0 : Kd.C Kd.bool w A0 l0.length l0) (hc0 : l0.length ≤ c0) (h : spec_l01Pack.f k l0 = some r) :
  Calls Try.prog 160 #[.slice A0 l0.length c0] w fun e w' => ∃ v0_ : Value, e = .returned (v0_) ∧ Kd.R (Kd.int .u8) 5 w' w.heap.size (fun _ => True) v0_ r ∧ Below w.heap.size w w' := by
 have HR0 := Aside0.mk hr0
 have HC0 := Aside0.mk hc0
 clear hr0 hc0
 have HB := Aside0.mk (Below.refl w.heap.size w)
 have H : (spec_l01Pack.l0 k l0 (([] : List Int)) 0) = some r := h
 clear h
 obtain ⟨y862, hy862⟩ : ∃ y_ : List Int, y_ = (([] : List Int)) := ⟨_, rfl⟩
 replace H : (spec_l01Pack.l0 k l0 y862 0) = some r := by first | (rw [hy862]; with_reducible exact H) | (have H2_ := (Option.bind_some _ _).symm.trans H; rw [hy862]; with_reducible exact H2_) | (have H2_ := (Option.bind_some _ _).symm.trans H; with_reducible exact H2_) | with_reducible exact H | (rw [hy862]; exact H) | exact H
 have Ny862 := Aside0.mk hy862
 clear hy862
 have H' := Aside0.mk H
 clear H
 go_enter Try.func160, Try.ntmps160
 go_wp2_with (first | ((with_reducible refine gate_dst (N := 7) rfl ?_); refine Kd.R_lit (Kd.int .u8) _ 5 ?hg (N := 7) ?hd (xs := ([] : List Int)) (inner := []) (ok := fun _ => True) (okp := fun _ => True) ?hr ?hp (fun _ hk => hk) trivial (Below.refl _ _) (Nat.le_refl _) (by simp) ?_; (case hd => rfl); (case hg => rfl); (case hr => first | (go_simp; done) | (go_simp; rfl)); (case hp => exact (Reps.none _ _)); intro v863 w2 ho3 hb hg_ hnew_; clear hg_ hnew_; (first | rw [← Ny862.out] at ho3 | (simp only [Int.reduceToNat] at ho3; rw [← Ny862.out] at ho3)); have n0_ := Aside0.mk (Kd.R_lower ho3 (below_size (by repeat (first | (with_reducible first | exact HB.out | apply below_alloc | apply pw_below_drewN | apply below_drew1) | exact HB.out)))); have n1_ := Aside0.mk (below_step (by repeat (first | (with_reducible first | exact HB.out | apply below_alloc | apply pw_below_drewN | apply below_drew1) | exact HB.out)) hb); clear HB; have HO864 := n0_; have HB := n1_; clear n0_ n1_; clear hb ho3))
 go_loopg [3, 4] k (fun kq v3 v4 w' => ∃ (x3_1 : List Int) (x4_1 : Int), v4 = .int .i64 x4_1 ∧ Aside0 (spec_l01Pack.l0 kq l0 x3_1 x4_1 = some r) ∧ Aside0 (kq ≤ k) ∧ Aside0 (Kd.R (Kd.int .u8) 5 w' w.heap.size (fun _ => True) v3 x3_1) ∧ Aside0 (Below w.heap.size w w'))
 case atStart => exact ⟨(y862), (0), (by first | rfl | (simp; done) | (simp [*]; done)), H', ⟨Nat.le_refl _⟩, ⟨by (with_reducible repeat (first | apply Kd.R_alloc | apply Kd.R_drewN | apply Kd.R_drew)); exact HO864.out⟩, ⟨by repeat (first | (with_reducible first | exact HB.out | apply below_alloc | apply pw_below_drewN | apply below_drew1) | exact HB.out)⟩⟩
 case round =>
  clear H'
  try clear c1
  try clear p2
  obtain ⟨x3_1, x4_1, rfl, HA, HK1, HO_3, HB⟩ := hrel
  cases gk with
  | zero => exact absurd HA.out (by simp [spec_l01Pack.l0])
  | succ k1 =>
   have H := HA.out
   clear HA
   simp only [spec_l01Pack.l0] at H
   by_cases c4 : x4_1 < (l0.length : Int)
   ·rw [if_pos c4] at H
    have c4b0 : decide (x4_1 < (l0.length : Int)) = true := decide_eq_true c4
    clear c4
    have H' := Aside0.mk H
    clear H
    go_wp2
    go_loopg [5, 6] k1 (fun kq v5 v6 w' => ∃ (x5_2 : Int) (x6_2 : Int), v5 = .int .i64 x5_2 ∧ v6 = .int .i64 x6_2 ∧ Aside0 (spec_l01Pack.l1 kq l0 x3_1 x4_1 x5_2 x6_2 = some r) ∧ Aside0 (kq ≤ k1) ∧ Aside0 (Kd.R (Kd.int .u8) 5 w' w.heap.size (fun _ => True) u3 x3_1) ∧ Aside0 (Below w.heap.size w w'))
    case atStart => exact ⟨(0), (0), (by first | rfl | (simp; done) | (simp [*]; done)), (by first | rfl | (simp; done) | (simp [*]; done)), H', ⟨Nat.le_refl _⟩, ⟨by (with_reducible repeat (first | apply Kd.R_alloc | apply Kd.R_drewN | apply Kd.R_drew)); exact HO_3.out⟩, ⟨by repeat (first | (with_reducible first | exact HB.out | apply below_alloc | apply pw_below_drewN | apply below_drew1) | exact HB.out)⟩⟩
    case round =>
     clear H'
     try clear c1
     try clear p2
     try clear c4
     try clear c4b0
     try clear p2
     obtain ⟨x5_2, x6_2, rfl, rfl, HA, HK2, HO_3, HB⟩ := hrel
     cases gk with
     | zero => exact absurd HA.out (by simp [spec_l01Pack.l1])
     | succ k2 =>
      have H := HA.out
      clear HA
      simp only [spec_l01Pack.l1] at H
      by_cases c5 : x6_2 < 8
      ·rw [if_pos c5] at H
       have c5b0 : decide (x6_2 < 8) = true := decide_eq_true c5
       clear c5
       by_cases c6 : (wrap64 (x4_1 + x6_2)) ≥ (l0.length : Int)
       ·rw [if_pos c6] at H
        have c6b0 : decide ((l0.length : Int) ≤ (wrap64 (x4_1 + x6_2))) = true := decide_eq_true c6
        clear c6
        have H' := Aside0.mk H
        clear H
        go_wp2
        go_roundg k2
        case measure => have := HK1.out; have := HK2.out; omega
        case rel => exact ⟨(wrap64 ((wrap64 (2 * x5_2)) + 1)), (wrap64 (x6_2 + 1)), (by first | rfl | (simp; done) | (simp [*]; done)), (by first | rfl | (simp; done) | (simp [*]; done)), H', ⟨by have := HK1.out; have := HK2.out; omega⟩, ⟨by (with_reducible repeat (first | apply Kd.R_alloc | apply Kd.R_drewN | apply Kd.R_drew)); exact HO_3.out⟩, ⟨by repeat (first | (with_reducible first | exact HB.out | apply below_alloc | apply pw_below_drewN | apply below_drew1) | exact HB.out)⟩⟩
       ·rw [if_neg c6] at H
        have c6b0 : decide ((l0.length : Int) ≤ (wrap64 (x4_1 + x6_2))) = false := decide_eq_false c6
        clear c6
        obtain ⟨ji7, hji7⟩ : ∃ j_ : Int, (wrap64 (x4_1 + x6_2)) = j_ := ⟨_, rfl⟩
        replace H : (if 0 ≤ (ji7) then (if (ji7) < (l0.length : Int) then (if rdOf false l0 (ji7) = true then (spec_l01Pack.l1 k2 l0 x3_1 x4_1 (wrap64 ((wrap64 (2 * x5_2)) + 1)) (wrap64 (x6_2 + 1))) else (spec_l01Pack.l1 k2 l0 x3_1 x4_1 (wrap64 (2 * x5_2)) (wrap64 (x6_2 + 1)))) else (none)) else (none)) = some r := by first | (rw [hji7] at H; exact H) | (simp only [hji7] at H ⊢; exact H)
        (try rw [hji7] at c6b0)
        have hji7w : (IntKind.i64.wrap (x4_1 + x6_2)) = ji7 := (i64_w _).trans hji7
        by_cases c8 : 0 ≤ (ji7)
        ·rw [if_pos c8] at H
         have c8b0 : decide (0 ≤ (ji7)) = true := decide_eq_true c8
         clear c8
         by_cases c9 : (ji7) < (l0.length : Int)
         ·rw [if_pos c9] at H
          have c9b0 : decide ((ji7) < (l0.length : Int)) = true := decide_eq_true c9
          clear c9
          obtain ⟨bq10, hbq10⟩ : ∃ b_ : Bool, b_ = (rdOf false l0 (ji7)) := ⟨_, rfl⟩
          replace H : (if bq10 = true then (spec_l01Pack.l1 k2 l0 x3_1 x4_1 (wrap64 ((wrap64 (2 * x5_2)) + 1)) (wrap64 (x6_2 + 1))) else (spec_l01Pack.l1 k2 l0 x3_1 x4_1 (wrap64 (2 * x5_2)) (wrap64 (x6_2 + 1)))) = some r := by rw [← hbq10] at H; exact H
          have Nbq10 := Aside0.mk hbq10
          clear hbq10
          by_cases c11 : bq10 = true
          ·subst c11
           have H1 : (spec_l01Pack.l1 k2 l0 x3_1 x4_1 (wrap64 ((wrap64 (2 * x5_2)) + 1)) (wrap64 (x6_2 + 1))) = some r := by rw [if_pos rfl] at H; exact H
           clear H
           have H := H1
           clear H1
           have H' := Aside0.mk H
           clear H
           have p865 : 0 ≤ ((ji7) : Int) := of_decide_eq_true (by first | (with_reducible assumption) | assumption)
           have q865 : (ji7) < (l0.length : Int) := of_decide_eq_true (by first | (with_reducible assumption) | assumption)
           obtain ⟨ad865, e865, hx865_0⟩ := Kd.at_bool HR0.out (ji7) p865 q865
           (try rw [← Nbq10.out] at hx865_0)
           cases e865
           replace hx865_0 := (HB.out.cell (World.block_lt_of_cell? w _ hx865_0)).trans hx865_0
           replace p865 := eq_true p865
           replace q865 := eq_true q865
           go_wp2
           go_roundg k2
           case measure => have := HK1.out; have := HK2.out; omega
           case rel => exact ⟨(wrap64 ((wrap64 (2 * x5_2)) + 1)), (wrap64 (x6_2 + 1)), (by first | rfl | (simp; done) | (simp [*]; done)), (by first | rfl | (simp; done) | (simp [*]; done)), H', ⟨by have := HK1.out; have := HK2.out; omega⟩, ⟨by (with_reducible repeat (first | apply Kd.R_alloc | apply Kd.R_drewN | apply Kd.R_drew)); exact HO_3.out⟩, ⟨by repeat (first | (with_reducible first | exact HB.out | apply below_alloc | apply pw_below_drewN | apply below_drew1) | exact HB.out)⟩⟩
          ·replace c11 := Bool.eq_false_iff.mpr c11
           subst c11
           have H1 : (spec_l01Pack.l1 k2 l0 x3_1 x4_1 (wrap64 (2 * x5_2)) (wrap64 (x6_2 + 1))) = some r := by rw [if_neg (show ¬ (false = true) by decide)] at H; exact H
           clear H
           have H := H1
           clear H1
           have H' := Aside0.mk H
           clear H
           have p865 : 0 ≤ ((ji7) : Int) := of_decide_eq_true (by first | (with_reducible assumption) | assumption)
           have q865 : (ji7) < (l0.length : Int) := of_decide_eq_true (by first | (with_reducible assumption) | assumption)
           obtain ⟨ad865, e865, hx865_0⟩ := Kd.at_bool HR0.out (ji7) p865 q865
           (try rw [← Nbq10.out] at hx865_0)
           cases e865
           replace hx865_0 := (HB.out.cell (World.block_lt_of_cell? w _ hx865_0)).trans hx865_0
           replace p865 := eq_true p865
           replace q865 := eq_true q865
           go_wp2
           go_roundg k2
           case measure => have := HK1.out; have := HK2.out; omega
           case rel => exact ⟨(wrap64 (2 * x5_2)), (wrap64 (x6_2 + 1)), (by first | rfl | (simp; done) | (simp [*]; done)), (by first | rfl | (simp; done) | (simp [*]; done)), H', ⟨by have := HK1.out; have := HK2.out; omega⟩, ⟨by (with_reducible repeat (first | apply Kd.R_alloc | apply Kd.R_drewN | apply Kd.R_drew)); exact HO_3.out⟩, ⟨by repeat (first | (with_reducible first | exact HB.out | apply below_alloc | apply pw_below_drewN | apply below_drew1) | exact HB.out)⟩⟩
         ·rw [if_neg c9] at H
          exact absurd H (by simp)
        ·rw [if_neg c8] at H
         exact absurd H (by simp)
      ·rw [if_neg c5] at H
       have c5b0 : decide (x6_2 < 8) = false := decide_eq_false c5
       clear c5
       by_cases c12 : x3_1.length < 140737488355328
       ·rw [if_pos c12] at H
        have LMc12 := Aside0.mk c12
        clear c12
        obtain ⟨y866, hy866⟩ : ∃ y_ : List Int, y_ = (x3_1 ++ [(x5_2) % 256]) := ⟨_, rfl⟩
        replace H : (spec_l01Pack.l0 k2 l0 y866 (wrap64 (x4_1 + 8))) = some r := by first | (rw [hy866]; with_reducible exact H) | (have H2_ := (Option.bind_some _ _).symm.trans H; rw [hy866]; with_reducible exact H2_) | (have H2_ := (Option.bind_some _ _).symm.trans H; with_reducible exact H2_) | with_reducible exact H | (rw [hy866]; exact H) | exact H
        have Ny866 := Aside0.mk hy866
        clear hy866
        have H' := Aside0.mk H
        clear H
        go_wp2_with (first | ((with_reducible refine gate_builtin (b := .append) (xs := #[.tmp 36, .tmp 39]) rfl ?_); at_builtin; refine Kd.R_append (Kd.int .u8) (w0 := w) w.heap.size rfl (.tmp 36) (.tmp 39) 23 5 (.int .u8 0) 1 rfl Try.underlying23 info5 rfl (by decide) (by omega) u3 x3_1 ((x5_2) % 256) [.int .u8 ((x5_2) % 256)] (fun _ => True) (fun _ => False) rfl rfl ?aP (fun _ hk => hk.elim) ?aF ?aO ?aB ?aS ?aL ?_; (case aP => exact rfl); (case aB => exact (by repeat (first | (with_reducible first | exact HB.out | apply below_alloc | apply pw_below_drewN | apply below_drew1) | exact HB.out))); (case aF => exact (fun _ _ => trivial)); (case aO => exact (by (with_reducible repeat (first | apply Kd.R_alloc | apply Kd.R_drewN | apply Kd.R_drew)); exact HO_3.out)); (case aS => exact (below_size (by repeat (first | (with_reducible first | exact HB.out | apply below_alloc | apply pw_below_drewN | apply below_drew1) | exact HB.out)))); (case aL => have := LMc12.out; omega); intro v867 w13 ho hb hg hat; rw [← Ny866.out] at ho; have n0_ := Aside0.mk (hb); have n1_ := Aside0.mk (ho); clear HB; clear HO_3; have HB := n0_; have HO868 := n1_; clear n0_ n1_; clear ho hb hg hat))
        go_roundg k2
        case measure => have := HK1.out; have := HK2.out; omega
        case rel => exact ⟨(y866), (wrap64 (x4_1 + 8)), (by first | rfl | (simp; done) | (simp [*]; done)), H', ⟨by have := HK1.out; have := HK2.out; omega⟩, ⟨by (with_reducible repeat (first | apply Kd.R_alloc | apply Kd.R_drewN | apply Kd.R_drew)); exact HO868.out⟩, ⟨by repeat (first | (with_reducible first | exact HB.out | apply below_alloc | apply pw_below_drewN | apply below_drew1) | exact HB.out)⟩⟩
       ·rw [if_neg c12] at H
        exact absurd H (by simp)
   ·rw [if_neg c4] at H
    have c4b0 : decide (x4_1 < (l0.length : Int)) = false := decide_eq_false c4
    clear c4
    obtain rfl := Option.some.inj H
    go_wp2
    go_ret
    exact ⟨_, by first | rfl | (simp [errW_none, errW_some] <;> rfl) | (simp [*, errW_none, errW_some] <;> rfl), by (with_reducible repeat (first | apply Kd.R_alloc | apply Kd.R_drewN | apply Kd.R_drew)); exact HO_3.out, by repeat (first | (with_reducible first | exact HB.out | apply below_alloc | apply pw_below_drewN | apply below_drew1) | exact HB.out)⟩
theorem rdB_nat (l : List Bool) (i : Nat) (h : i < l.length) : rdOf false l (i : Int) = l[i] := by simp [rdOf, h]
theorem bt1_at (B : List Bool) (i : Nat) (h : i < B.length) : bt1 B i = if B[i] = true then 1 else 0 := by unfold bt1; simp [h]
theorem bt1_past (B : List Bool) (i : Nat) (h : B.length ≤ i) : bt1 B i = 1 := by unfold bt1; simp [List.getElem?_eq_none h]
theorem valF_255 (B : List Bool) (p m : Nat) (h : m ≤ 8) : 0 ≤ valF (bt1 B) p m ∧ valF (bt1 B) p m ≤ 255 := by
 have h1 := valF_range (bt1 B) (bt1_01 B) p m
 have h2 : (2 : Int) ^ m ≤ 256 := pow_cast _ 256 (Nat.pow_le_pow_right (n := 2) (by decide) h)
 omega
theorem spec_l01Pack.l1_ev (B : List Bool) (hl : B.length ≤ 140737488300000) (out : List Int) (ho : out.length ≤ 140737488300000) (j : Nat) (hj : 8 * j < B.length) (r : List Int)
  (h : Ev (fun k => spec_l01Pack.l0 k B (out ++ [valF (bt1 B) (8 * j) 8]) ((8 * (j + 1) : Nat) : Int)) r) :
  ∀ (d m : Nat), m + d = 8 → Ev (fun k => spec_l01Pack.l1 k B out ((8 * j : Nat) : Int) (valF (bt1 B) (8 * j) m) (m : Int)) r := by
 intro d
 induction d with
 | zero =>
  intro m hm
  obtain rfl : m = 8 := by omega
  have h2 := valF_255 B (8 * j) 8 (by omega)
  refine Ev.step (fun _ => by rw [spec_l01Pack.l1]) (Ev.ng (by omega) (Ev.ip (by omega) ?_))
  rw [show valF (bt1 B) (8 * j) 8 % 256 = valF (bt1 B) (8 * j) 8 by omega, wrap_in (((8 * j : Nat) : Int) + 8) (by omega) (by omega), show ((8 * j : Nat) : Int) + 8 = ((8 * (j + 1) : Nat) : Int) by omega]
  exact h
 | succ d ih =>
  intro m hm
  have h2 := valF_255 B (8 * j) m (by omega)
  refine Ev.step (fun _ => by rw [spec_l01Pack.l1]) (Ev.ip (by omega) ?_)
  rw [wrap_in (2 * valF (bt1 B) (8 * j) m) (by omega) (by omega), wrap_in (2 * valF (bt1 B) (8 * j) m + 1) (by omega) (by omega), wrap_in (((8 * j : Nat) : Int) + (m : Int)) (by omega) (by omega), wrap_succ m (by omega), show ((8 * j : Nat) : Int) + (m : Int) = ((8 * j + m : Nat) : Int) by omega]
  have h3 := ih (m + 1) (by omega)
  simp only [valF] at h3
  by_cases hb : 8 * j + m < B.length
  ·refine Ev.ng (by omega) (Ev.ip (by omega) (Ev.ip (by omega) ?_))
   rw [rdB_nat B _ hb]
   rw [bt1_at B _ hb] at h3
   by_cases hc : B[8 * j + m] = true
   ·rw [if_pos hc] at h3
    exact Ev.ip hc h3
   ·rw [if_neg hc, Int.add_zero] at h3
    exact Ev.ng hc h3
  ·rw [bt1_past B _ (by omega)] at h3
   exact Ev.ip (by omega) h3
theorem outOf_succ (B : List Bool) (j : Nat) : outOf B (j + 1) = outOf B j ++ [valF (bt1 B) (8 * j) 8] := by simp [outOf, List.range_succ]
theorem outOf_len (B : List Bool) (j : Nat) : (outOf B j).length = j := by simp [outOf]
theorem spec_l01Pack.l0_ev (B : List Bool) (hl : B.length ≤ 140737488300000) : ∀ (d j : Nat), j + d = (B.length + 7) / 8 → Ev (fun k => spec_l01Pack.l0 k B (outOf B j) ((8 * j : Nat) : Int)) (packM B) := by
 intro d
 induction d with
 | zero =>
  intro j hj
  refine Ev.step (fun _ => by rw [spec_l01Pack.l0]) (Ev.ng (by omega) (Ev.eq (Ev.now _) ?_))
  unfold packM
  rw [← hj, Nat.add_zero]
 | succ d ih =>
  intro j hj
  have h3 := ih (j + 1) (by omega)
  rw [outOf_succ] at h3
  refine Ev.step (fun _ => by rw [spec_l01Pack.l0]) (Ev.ip (by omega) ?_)
  exact spec_l01Pack.l1_ev B hl (outOf B j) (by rw [outOf_len]; omega) j (by omega) _ h3 8 0 (by omega)
theorem spec_l01Pack.ev (B : List Bool) (hl : B.length ≤ 140737488300000) : Ev (fun k => spec_l01Pack.f k B) (packM B) := spec_l01Pack.l0_ev B hl _ 0 (Nat.zero_add _)
end Go.Proofs.Ytcjjmfpkhhdmlaa.G


namespace Go.Proofs.Ytcjjmfpkhhdmlaa.G
open Go.RowKit Go.Proofs.YtcjjmfpkhhdmlaaW.PrintWords Go.Proofs.YtcjjmfpkhhdmlaaW.PrintLast Go.Proofs.YtcjjmfpkhhdmlaaW.PrintMore
attribute [local go_sem] max2_int min2_int max_two min_two max_three min_three max_four min_four   -- for this text's walks alone
def spec_PackBits.l0 : Nat → List (S124) → List Bool → Int → Option (List Int)
 | 0, _, _, _ => none
 | k + 1, x0, x3, x4 => if x4 < (x0.length : Int) then (if 0 ≤ x4 then ((spec_l01Bits.f k x3 ((rd_T124 x0 x4).f0) ((rd_T124 x0 x4).f1)).bind fun t878 => (spec_PackBits.l0 k x0 t878 (wrap64 (x4 + 1)))) else (none)) else ((spec_l01Pack.f k x3).bind fun t881 => (some t881))
def spec_PackBits.f (k : Nat) (l0 : List (S124)) : Option (List Int) := (spec_FieldsOk.f k l0).bind fun t869 => (if t869 = true then (spec_PackBits.l0 k l0 (([] : List Bool)) 0) else (some (([] : List Int))))
def spec_PackBits.T7 : Bool × List (List Nat × List Nat) := (true, [([], []), ([], []), ([], []), ([1, 2], [1, 2]), ([3], [3]), ([4], [4]), ([], []), ([], []), ([6, 7], [6, 7]), ([8], [8]), ([9], [9]), ([0, 5, 10], [0, 5, 10]), ([11, 11, 0, 1, 2, 3, 4, 5, 6, 7, 8, 9, 10, 11], [0, 11])])
def spec_PackBits.B7 : List Nat := [0, 0, 0, 6, 14, 30, 0, 0, 192, 448, 960, 2047, 4095]
theorem spec_PackBits.tab7 : rtab .any (opsOf Try.f122 7) = spec_PackBits.T7 := by kernel_rfl
theorem spec_PackBits.bits7 : waitsOk spec_PackBits.T7.2 spec_PackBits.B7 = true := by kernel_rfl
set_option maxHeartbeats 8000000 in
set_option maxRecDepth 100000 in
theorem spec_PackBits.calls (k : Nat) (A0 : Option Addr) (c0 : Nat) (l0 : List (S124)) (r : List Int) (w : World) (hr0 : Kd.C k124 w A0 l0.length l0) (hc0 : l0.length ≤ c0) (h : spec_PackBits.f k l0 = some r) :
  Calls Try.prog 122 #[.slice A0 l0.length c0] w fun e w' => ∃ v0_ : Value, e = .returned (v0_) ∧ Kd.R (Kd.int .u8) 5 w' w.heap.size (fun _ => True) v0_ r ∧ Below w.heap.size w w' := by
 have HR0 := Aside0.mk hr0
 have HC0 := Aside0.mk hc0
 clear hr0 hc0
 have HB := Aside0.mk (Below.refl w.heap.size w)
 have H : ((spec_FieldsOk.f k l0).bind fun t869 => (if t869 = true then (spec_PackBits.l0 k l0 (([] : List Bool)) 0) else (some (([] : List Int))))) = some r := h
 clear h
 replace H := Option.bind_eq_some_iff.mp H
 obtain ⟨t869, A20, H⟩ := H
 replace H : (if t869 = true then (spec_PackBits.l0 k l0 (([] : List Bool)) 0) else (some (([] : List Int)))) = some r := H
 have A2 := Aside0.mk A20
 clear A20
 by_cases c3 : t869 = true
 ·subst c3
  have H1 : (spec_PackBits.l0 k l0 (([] : List Bool)) 0) = some r := by rw [if_pos rfl] at H; exact H
  clear H
  have H := H1
  clear H1
  obtain ⟨y873, hy873⟩ : ∃ y_ : List Bool, y_ = (([] : List Bool)) := ⟨_, rfl⟩
  replace H : (spec_PackBits.l0 k l0 y873 0) = some r := by first | (rw [hy873]; with_reducible exact H) | (have H2_ := (Option.bind_some _ _).symm.trans H; rw [hy873]; with_reducible exact H2_) | (have H2_ := (Option.bind_some _ _).symm.trans H; with_reducible exact H2_) | with_reducible exact H | (rw [hy873]; exact H) | exact H
  have Ny873 := Aside0.mk hy873
  clear hy873
  have H' := Aside0.mk H
  clear H
  go_enter Try.func122, Try.ntmps122
  go_wp2_with (first | ((with_reducible refine gate_callee (f := 158) rfl ?_); refine goesL_ (some 6) rfl rfl Try.func158 (by kernel_rfl) rfl #[.slice A0 l0.length c0] rfl (by (try simp only [List.map_toArray, List.map_cons, List.map_nil]); first | done | rfl | (simp only [List.length_drop, List.length_take]; rfl)) ?_; (with_reducible refine (spec_FieldsOk.calls k _ _ l0 true _ ?side1 ?side2 A2.out).mono ?_); (case side1 => repeat (first | exact HR0.out | (with_reducible refine Kd.C_alloc ?_ _) | (with_reducible refine Kd.C_drewN ?_ _) | (with_reducible refine Kd.C_drew ?_))); (case side2 => exact HC0.out); rintro e w4 ⟨rfl, hb⟩; refine ⟨_, rfl, ?_⟩; have n0_ := Aside0.mk (below_step (by repeat (first | (with_reducible first | exact HB.out | apply below_alloc | apply pw_below_drewN | apply below_drew1) | exact HB.out)) hb); clear HB; have HB := n0_; clear n0_; (try clear hb); (try clear hb2); (try clear hk); (try clear hi)) | ((with_reducible refine gate_dst (N := 9) rfl ?_); refine Kd.R_lit Kd.bool _ 4 ?hg (N := 9) ?hd (xs := ([] : List Bool)) (inner := []) (ok := fun _ => True) (okp := fun _ => True) ?hr ?hp (fun _ hk => hk) trivial (Below.refl _ _) (Nat.le_refl _) (by simp) ?_; (case hd => rfl); (case hg => rfl); (case hr => first | (go_simp; done) | (go_simp; rfl)); (case hp => exact (Reps.none _ _)); intro v874 w5 ho6 hb hg_ hnew_; clear hg_ hnew_; (first | rw [← Ny873.out] at ho6 | (simp only [Int.reduceToNat] at ho6; rw [← Ny873.out] at ho6)); have n0_ := Aside0.mk (Kd.R_lower ho6 (below_size (by repeat (first | (with_reducible first | exact HB.out | apply below_alloc | apply pw_below_drewN | apply below_drew1) | exact HB.out)))); have n1_ := Aside0.mk (below_step (by repeat (first | (with_reducible first | exact HB.out | apply below_alloc | apply pw_below_drewN | apply below_drew1) | exact HB.out)) hb); clear HB; have HO875 := n0_; have HB := n1_; clear n0_ n1_; clear hb ho6))
  go_loopg [3, 4] k (fun kq v3 v4 w' => ∃ (x3_1 : List Bool) (x4_1 : Int), v4 = .int .i64 x4_1 ∧ Aside0 (spec_PackBits.l0 kq l0 x3_1 x4_1 = some r) ∧ Aside0 (kq ≤ k) ∧ Aside0 (Kd.R Kd.bool 4 w' w.heap.size (fun _ => True) v3 x3_1) ∧ Aside0 (Below w.heap.size w w'))
  case atStart => exact ⟨(y873), (0), (by first | rfl | (simp; done) | (simp [*]; done)), H', ⟨Nat.le_refl _⟩, ⟨by (with_reducible repeat (first | apply Kd.R_alloc | apply Kd.R_drewN | apply Kd.R_drew)); exact HO875.out⟩, ⟨by repeat (first | (with_reducible first | exact HB.out | apply below_alloc | apply pw_below_drewN | apply below_drew1) | exact HB.out)⟩⟩
  case round =>
   clear H'
   try clear c1
   try clear p2
   try clear c3
   obtain ⟨x3_1, x4_1, rfl, HA, HK1, HO_3, HB⟩ := hrel
   cases gk with
   | zero => exact absurd HA.out (by simp [spec_PackBits.l0])
   | succ k1 =>
    have H := HA.out
    clear HA
    simp only [spec_PackBits.l0] at H
    by_cases c7 : x4_1 < (l0.length : Int)
    ·rw [if_pos c7] at H
     have c7b0 : decide (x4_1 < (l0.length : Int)) = true := decide_eq_true c7
     clear c7
     by_cases c8 : 0 ≤ x4_1
     ·rw [if_pos c8] at H
      have c8b0 : decide (0 ≤ x4_1) = true := decide_eq_true c8
      clear c8
      replace H := Option.bind_eq_some_iff.mp H
      obtain ⟨t878, A90, H⟩ := H
      replace H : (spec_PackBits.l0 k1 l0 t878 (wrap64 (x4_1 + 1))) = some r := H
      have A9 := Aside0.mk A90
      clear A90
      have H' := Aside0.mk H
      clear H
      try go_wp2
      have n0_ := Aside0.mk (Kd.R_drew HO_3.out)
      have n1_ := Aside0.mk (below_drew1 HB.out)
      clear HO_3
      clear HB
      have HO_3 := n0_
      have HB := n1_
      clear n0_ n1_
      have p876 : 0 ≤ (x4_1 : Int) := of_decide_eq_true (by first | (with_reducible assumption) | assumption)
      have q876 : x4_1 < (l0.length : Int) := of_decide_eq_true (by first | (with_reducible assumption) | assumption)
      obtain ⟨ad876, e876, hx876_0, hx876_1⟩ := at_T124 HR0.out x4_1 p876 q876
      have hw876_1 := hx876_1
      have hw876_0 := hx876_0
      cases e876
      replace hx876_0 := (HB.out.cell (World.block_lt_of_cell? w _ hx876_0)).trans hx876_0
      replace hx876_1 := (HB.out.cell (World.block_lt_of_cell? w _ hx876_1)).trans hx876_1
      replace p876 := eq_true p876
      replace q876 := eq_true q876
      have p877 : 0 ≤ (x4_1 : Int) := of_decide_eq_true (by first | (with_reducible assumption) | assumption)
      have q877 : x4_1 < (l0.length : Int) := of_decide_eq_true (by first | (with_reducible assumption) | assumption)
      obtain ⟨ad877, e877, hx877_0, hx877_1⟩ := at_T124 HR0.out x4_1 p877 q877
      have hw877_1 := hx877_1
      have hw877_0 := hx877_0
      obtain rfl : ad876 = ad877 := (by injection e877)
      replace hx877_0 := (HB.out.cell (World.block_lt_of_cell? w _ hx877_0)).trans hx877_0
      replace hx877_1 := (HB.out.cell (World.block_lt_of_cell? w _ hx877_1)).trans hx877_1
      replace p877 := eq_true p877
      replace q877 := eq_true q877
      obtain ⟨Ao11, co11, eo11⟩ := Kd.R_slice HO_3.out
      (first | subst eo11 | (injection eo11 with f1_ f2_ f3_; have f4_ := f1_.symm; have f5_ := f3_.symm; clear f1_ f2_ f3_; subst f4_; subst f5_))
      refine start_ (n := 13) (S := fun w' => w'.cell? (ad876.add ((x4_1).toNat * 2)) = some (.int .i64 ((rd_T124 l0 x4_1).f0)) ∧ w'.cell? ⟨(ad876.add ((x4_1).toNat * 2)).block, (ad876.add ((x4_1).toNat * 2)).off + 1, none⟩ = some (.int .i64 ((rd_T124 l0 x4_1).f1)) ∧ w'.cell? (ad876.add ((x4_1).toNat * 2)) = some (.int .i64 ((rd_T124 l0 x4_1).f0)) ∧ w'.cell? ⟨(ad876.add ((x4_1).toNat * 2)).block, (ad876.add ((x4_1).toNat * 2)).off + 1, none⟩ = some (.int .i64 ((rd_T124 l0 x4_1).f1))) (ds := []) #[false, false, false, false, false, false, false, false, false, false, false, false, false] (by kernel_rfl) rfl rfl ⟨((HB.out.cell (World.block_lt_of_cell? w _ hw876_0)).trans hw876_0), ((HB.out.cell (World.block_lt_of_cell? w _ hw876_1)).trans hw876_1), ((HB.out.cell (World.block_lt_of_cell? w _ hw877_0)).trans hw877_0), ((HB.out.cell (World.block_lt_of_cell? w _ hw877_1)).trans hw877_1)⟩ (fun hHeld => ?_); refine with_tabW spec_PackBits.tab7 spec_PackBits.bits7 (fun HT_ HW_ => ?_)
      generalize wr.drew = w10 at HO_3 HB hx876_0 hx876_1 hx877_0 hx877_1 hHeld ⊢
      refine pure_ (i := 0) (N := some 16) (v := ?_) (a' := ?_) #[true, false, false, false, false, false, false, false, false, false, false, false, false] rfl rfl (any_of HT_.out (by kernel_rfl)) (fun _ _ _ h => h) (Or.inl ⟨by rfl, ?_⟩) ?_ ?_
      rotate_left
      ·intro w'
       go_simp
       with_reducible rfl
      rotate_left
      ·simp only [Act.put, List.setIfInBounds_toArray, List.set_cons_zero, List.set_cons_succ, i64_w, i32_w]
       rfl
      refine pure_ (i := 1) (N := some 17) (v := ?_) (a' := ?_) #[true, true, false, false, false, false, false, false, false, false, false, false, false] rfl rfl (any_of HT_.out (by kernel_rfl)) (fun _ _ _ h => h) (Or.inl ⟨by rfl, ?_⟩) ?_ ?_
      rotate_left
      ·intro w'
       go_simp
       with_reducible rfl
      rotate_left
      ·simp only [Act.put, List.setIfInBounds_toArray, List.set_cons_zero, List.set_cons_succ, i64_w, i32_w]
       rfl
      refine pure_ (i := 2) (N := some 18) (v := ?_) (a' := ?_) #[true, true, true, false, false, false, false, false, false, false, false, false, false] rfl rfl (any_of HT_.out (by kernel_rfl)) (fun _ _ _ h => h) (Or.inl ⟨by rfl, ?_⟩) ?_ ?_
      rotate_left
      ·intro w'
       go_simp
       with_reducible rfl
      rotate_left
      ·simp only [Act.put, List.setIfInBounds_toArray, List.set_cons_zero, List.set_cons_succ, i64_w, i32_w]
       rfl
      refine pure_ (i := 3) (N := some 19) (v := ?_) (a' := ?_) #[true, true, true, true, false, false, false, false, false, false, false, false, false] rfl rfl (any_of HT_.out (by kernel_rfl)) (fun _ _ _ h => h) (Or.inl ⟨by rfl, ?_⟩) ?_ ?_
      rotate_left
      ·intro w'
       go_simp
       with_reducible rfl
      rotate_left
      ·simp only [Act.put, List.setIfInBounds_toArray, List.set_cons_zero, List.set_cons_succ, i64_w, i32_w]
       rfl
      refine pure_ (i := 4) (N := some 20) (v := ?_) (a' := ?_) #[true, true, true, true, true, false, false, false, false, false, false, false, false] rfl rfl (any_of HT_.out (by kernel_rfl)) (fun _ _ _ h => h) (Or.inl ⟨by rfl, ?_⟩) ?_ ?_
      rotate_left
      ·intro w'
       go_simp
       with_reducible rfl
      rotate_left
      ·simp only [Act.put, List.setIfInBounds_toArray, List.set_cons_zero, List.set_cons_succ, i64_w, i32_w]
       rfl
      refine pure_ (i := 6) (N := some 22) (v := ?_) (a' := ?_) #[true, true, true, true, true, false, true, false, false, false, false, false, false] rfl rfl (any_of HT_.out (by kernel_rfl)) (fun _ _ _ h => h) (Or.inl ⟨by rfl, ?_⟩) ?_ ?_
      rotate_left
      ·intro w'
       go_simp
       with_reducible rfl
      rotate_left
      ·simp only [Act.put, List.setIfInBounds_toArray, List.set_cons_zero, List.set_cons_succ, i64_w, i32_w]
       rfl
      refine pure_ (i := 7) (N := some 23) (v := ?_) (a' := ?_) #[true, true, true, true, true, false, true, true, false, false, false, false, false] rfl rfl (any_of HT_.out (by kernel_rfl)) (fun _ _ _ h => h) (Or.inl ⟨by rfl, ?_⟩) ?_ ?_
      rotate_left
      ·intro w'
       go_simp
       with_reducible rfl
      rotate_left
      ·simp only [Act.put, List.setIfInBounds_toArray, List.set_cons_zero, List.set_cons_succ, i64_w, i32_w]
       rfl
      refine pure_ (i := 8) (N := some 24) (v := ?_) (a' := ?_) #[true, true, true, true, true, false, true, true, true, false, false, false, false] rfl rfl (any_of HT_.out (by kernel_rfl)) (fun _ _ _ h => h) (Or.inl ⟨by rfl, ?_⟩) ?_ ?_
      rotate_left
      ·intro w'
       go_simp
       with_reducible rfl
      rotate_left
      ·simp only [Act.put, List.setIfInBounds_toArray, List.set_cons_zero, List.set_cons_succ, i64_w, i32_w]
       rfl
      refine pure_ (i := 9) (N := some 25) (v := ?_) (a' := ?_) #[true, true, true, true, true, false, true, true, true, true, false, false, false] rfl rfl (any_of HT_.out (by kernel_rfl)) (fun _ _ _ h => h) (Or.inl ⟨by rfl, ?_⟩) ?_ ?_
      rotate_left
      ·intro w'
       go_simp
       with_reducible rfl
      rotate_left
      ·simp only [Act.put, List.setIfInBounds_toArray, List.set_cons_zero, List.set_cons_succ, i64_w, i32_w]
       rfl
      refine take_ (i := 5) (N := some 21) (v := ?_) (a' := ?_) #[true, true, true, true, true, true, true, true, true, true, false, false, false] rfl rfl (take_ofW HT_.out HW_.out (by kernel_rfl)) (fun _ _ _ h => h) (Or.inl ⟨by rfl, ?_⟩) hHeld ?_ ?_
      rotate_left
      ·rintro w' ⟨s0, s1, s2, s3⟩
       go_simp
       with_reducible rfl
      rotate_left
      ·simp only [Act.put, List.setIfInBounds_toArray, List.set_cons_zero, List.set_cons_succ, i64_w, i32_w]
       rfl
      refine take_ (i := 10) (N := some 26) (v := ?_) (a' := ?_) #[true, true, true, true, true, true, true, true, true, true, true, false, false] rfl rfl (take_ofW HT_.out HW_.out (by kernel_rfl)) (fun _ _ _ h => h) (Or.inl ⟨by rfl, ?_⟩) hHeld ?_ ?_
      rotate_left
      ·rintro w' ⟨s0, s1, s2, s3⟩
       go_simp
       with_reducible rfl
      rotate_left
      ·simp only [Act.put, List.setIfInBounds_toArray, List.set_cons_zero, List.set_cons_succ, i64_w, i32_w]
       rfl
      refine one_ (i := 11) (N := some 27) #[true, true, true, true, true, true, true, true, true, true, true, true, false] rfl rfl (one_of HT_.out (by kernel_rfl)) (by decide) (fun K hK => ?_)
      refine goes_ Try.func159 (by kernel_rfl) rfl #[.slice Ao11 x3_1.length co11, .int .i64 ((rd_T124 l0 x4_1).f0), .int .i64 ((rd_T124 l0 x4_1).f1)] (by rfl) rfl rfl (by (try simp only [List.map_toArray, List.map_cons, List.map_nil]); first | done | rfl | (simp only [List.length_drop, List.length_take]; rfl)) ?_
      with_reducible refine (spec_l01Bits.calls k1 (fun k_ => some k_ = (.slice Ao11 x3_1.length co11 : Value).ownBlock) (.slice Ao11 x3_1.length co11) x3_1 ((rd_T124 l0 x4_1).f0) ((rd_T124 l0 x4_1).f1) t878 w _ ?side1 ?side2 A9.out).mono ?_
      (case side1 => repeat (first | (with_reducible first | exact HB.out | apply below_alloc | apply pw_below_drewN | apply below_drew1) | exact HB.out))
      (case side2 => exact Kd.R_tight rfl HO_3.out)
      rintro e w12 ⟨v879, rfl, ho0, hb, hkp⟩
      refine ⟨_, rfl, ?_⟩
      have n0_ := Aside0.mk (Kd.R_mono (ok' := fun k_ => True) ho0 (fun k_ hk_ => trivial))
      have n1_ := Aside0.mk (hb)
      clear HB
      clear HO_3
      have HO880 := n0_
      have HB := n1_
      clear n0_ n1_
      (try clear hb)
      (try clear hkp)
      (try clear ho0)
      refine hK.out _ _ ⟨((HB.out.cell (World.block_lt_of_cell? w _ hw876_0)).trans hw876_0), ((HB.out.cell (World.block_lt_of_cell? w _ hw876_1)).trans hw876_1), ((HB.out.cell (World.block_lt_of_cell? w _ hw877_0)).trans hw877_0), ((HB.out.cell (World.block_lt_of_cell? w _ hw877_1)).trans hw877_1)⟩ (fun hHeld => ?_)
      clear hK K
      refine norm_ (a' := ?_) ?_ ?_
      rotate_left
      ·show Act.put _ (some 27) _ = _
       simp only [Act.put, List.setIfInBounds_toArray, List.set_cons_zero, List.set_cons_succ, i64_w, i32_w]
       rfl
      refine pure_ (i := 12) (N := some 3) (v := ?_) (a' := ?_) #[true, true, true, true, true, true, true, true, true, true, true, true, true] rfl rfl (any_of HT_.out (by kernel_rfl)) (fun _ _ _ h => h) (Or.inl ⟨by rfl, ?_⟩) ?_ ?_
      rotate_left
      ·intro w'
       go_simp
       with_reducible rfl
      rotate_left
      ·simp only [Act.put, List.setIfInBounds_toArray, List.set_cons_zero, List.set_cons_succ, i64_w, i32_w]
       rfl
      refine done_ (done_of HT_.out (by kernel_rfl)) ?_
      try go_wp2
      go_roundg k1
      case measure => have := HK1.out; omega
      case rel => exact ⟨(t878), (wrap64 (x4_1 + 1)), (by first | rfl | (simp; done) | (simp [*]; done)), H', ⟨by have := HK1.out; omega⟩, ⟨by (with_reducible repeat (first | apply Kd.R_alloc | apply Kd.R_drewN | apply Kd.R_drew)); exact HO880.out⟩, ⟨by repeat (first | (with_reducible first | exact HB.out | apply below_alloc | apply pw_below_drewN | apply below_drew1) | exact HB.out)⟩⟩
     ·rw [if_neg c8] at H
      exact absurd H (by simp)
    ·rw [if_neg c7] at H
     have c7b0 : decide (x4_1 < (l0.length : Int)) = false := decide_eq_false c7
     clear c7
     replace H := Option.bind_eq_some_iff.mp H
     obtain ⟨t881, A130, H⟩ := H
     replace H : (some t881) = some r := H
     have A13 := Aside0.mk A130
     clear A130
     obtain rfl := Option.some.inj H
     obtain ⟨Ao14, co14, eo14⟩ := Kd.R_slice HO_3.out
     subst eo14
     go_wp2_with (first | ((with_reducible refine gate_callee (f := 160) rfl ?_); refine goesL_ (some 29) rfl rfl Try.func160 (by kernel_rfl) rfl #[.slice Ao14 x3_1.length co14] rfl (by (try simp only [List.map_toArray, List.map_cons, List.map_nil]); first | done | rfl | (simp only [List.length_drop, List.length_take]; rfl)) ?_; (with_reducible refine (spec_l01Pack.calls k1 _ _ x3_1 t881 _ ?side1 ?side2 A13.out).mono ?_); (case side1 => repeat (first | exact (Kd.R_reads' HO_3.out).2.2 | (with_reducible refine Kd.C_alloc ?_ _) | (with_reducible refine Kd.C_drewN ?_ _) | (with_reducible refine Kd.C_drew ?_))); (case side2 => exact (Kd.R_reads' HO_3.out).2.1); rintro e w15 ⟨v882, rfl, ho0, hb⟩; refine ⟨_, rfl, ?_⟩; have n0_ := Aside0.mk (Kd.R_below (by (with_reducible repeat (first | apply Kd.R_alloc | apply Kd.R_drewN | apply Kd.R_drew)); exact HO_3.out) hb); have n1_ := Aside0.mk (Kd.R_lower ho0 (below_size (by repeat (first | (with_reducible first | exact HB.out | apply below_alloc | apply pw_below_drewN | apply below_drew1) | exact HB.out)))); have n2_ := Aside0.mk (below_step (by repeat (first | (with_reducible first | exact HB.out | apply below_alloc | apply pw_below_drewN | apply below_drew1) | exact HB.out)) hb); clear HO_3; clear HB; have HO_3 := n0_; have HO883 := n1_; have HB := n2_; clear n0_ n1_ n2_; (try clear hb); (try clear hb2); (try clear hk); (try clear hi); (try clear ho0)))
     go_ret
     exact ⟨_, by first | rfl | (simp [errW_none, errW_some] <;> rfl) | (simp [*, errW_none, errW_some] <;> rfl), by (with_reducible repeat (first | apply Kd.R_alloc | apply Kd.R_drewN | apply Kd.R_drew)); exact HO883.out, by repeat (first | (with_reducible first | exact HB.out | apply below_alloc | apply pw_below_drewN | apply below_drew1) | exact HB.out)⟩
 ·replace c3 := Bool.eq_false_iff.mpr c3
  subst c3
  have H1 : (some (([] : List Int))) = some r := by rw [if_neg (show ¬ (false = true) by decide)] at H; exact H
  clear H
  have H := H1
  clear H1
  obtain ⟨y870, hy870⟩ : ∃ y_ : List Int, y_ = (([] : List Int)) := ⟨_, rfl⟩
  replace H : (some y870) = some r := by first | (rw [hy870]; with_reducible exact H) | (have H2_ := (Option.bind_some _ _).symm.trans H; rw [hy870]; with_reducible exact H2_) | (have H2_ := (Option.bind_some _ _).symm.trans H; with_reducible exact H2_) | with_reducible exact H | (rw [hy870]; exact H) | exact H
  have Ny870 := Aside0.mk hy870
  clear hy870
  obtain rfl := Option.some.inj H
  go_enter Try.func122, Try.ntmps122
  go_wp2_with (first | ((with_reducible refine gate_callee (f := 158) rfl ?_); refine goesL_ (some 6) rfl rfl Try.func158 (by kernel_rfl) rfl #[.slice A0 l0.length c0] rfl (by (try simp only [List.map_toArray, List.map_cons, List.map_nil]); first | done | rfl | (simp only [List.length_drop, List.length_take]; rfl)) ?_; (with_reducible refine (spec_FieldsOk.calls k _ _ l0 false _ ?side1 ?side2 A2.out).mono ?_); (case side1 => repeat (first | exact HR0.out | (with_reducible refine Kd.C_alloc ?_ _) | (with_reducible refine Kd.C_drewN ?_ _) | (with_reducible refine Kd.C_drew ?_))); (case side2 => exact HC0.out); rintro e w16 ⟨rfl, hb⟩; refine ⟨_, rfl, ?_⟩; have n0_ := Aside0.mk (below_step (by repeat (first | (with_reducible first | exact HB.out | apply below_alloc | apply pw_below_drewN | apply below_drew1) | exact HB.out)) hb); clear HB; have HB := n0_; clear n0_; (try clear hb); (try clear hb2); (try clear hk); (try clear hi)) | ((with_reducible refine gate_dst (N := 8) rfl ?_); refine Kd.R_lit (Kd.int .u8) _ 5 ?hg (N := 8) ?hd (xs := ([] : List Int)) (inner := []) (ok := fun _ => True) (okp := fun _ => True) ?hr ?hp (fun _ hk => hk) trivial (Below.refl _ _) (Nat.le_refl _) (by simp) ?_; (case hd => rfl); (case hg => rfl); (case hr => first | (go_simp; done) | (go_simp; rfl)); (case hp => exact (Reps.none _ _)); intro v871 w17 ho18 hb hg_ hnew_; clear hg_ hnew_; (first | rw [← Ny870.out] at ho18 | (simp only [Int.reduceToNat] at ho18; rw [← Ny870.out] at ho18)); have n0_ := Aside0.mk (Kd.R_lower ho18 (below_size (by repeat (first | (with_reducible first | exact HB.out | apply below_alloc | apply pw_below_drewN | apply below_drew1) | exact HB.out)))); have n1_ := Aside0.mk (below_step (by repeat (first | (with_reducible first | exact HB.out | apply below_alloc | apply pw_below_drewN | apply below_drew1) | exact HB.out)) hb); clear HB; have HO872 := n0_; have HB := n1_; clear n0_ n1_; clear hb ho18))
  go_ret
  exact ⟨_, by first | rfl | (simp [errW_none, errW_some] <;> rfl) | (simp [*, errW_none, errW_some] <;> rfl), by (with_reducible repeat (first | apply Kd.R_alloc | apply Kd.R_drewN | apply Kd.R_drew)); exact HO872.out, by repeat (first | (with_reducible first | exact HB.out | apply below_alloc | apply pw_below_drewN | apply below_drew1) | exact HB.out)⟩
theorem spec_PackBits.l0_ev (l : List S124) (hl : l.length ≤ 1048576) (hok : l.all fOk = true) : ∀ (d i : Nat), i + d = l.length → Ev (fun k => spec_PackBits.l0 k l (allBits (l.take i)) (i : Int)) (packM (allBits l)) := by
 have hlen := fun i => allBits_take l hok i
 intro d
 induction d with
 | zero =>
  intro i hi
  obtain rfl : i = l.length := by omega
  refine Ev.step (fun _ => by rw [spec_PackBits.l0]) (Ev.ng (by omega) ?_)
  have := hlen l.length
  rw [List.take_length] at this ⊢
  exact Ev.bind (spec_l01Pack.ev _ (by omega)) (Ev.now _)
 | succ d ih =>
  intro i hi
  have h : i < l.length := by omega
  have h1 : fOk l[i] = true := List.all_eq_true.1 hok _ (List.getElem_mem h)
  simp only [fOk, Bool.and_eq_true, decide_eq_true_eq] at h1
  have hp := pow_16 l[i].f0 h1.1.1 h1.1.2
  refine Ev.step (fun _ => by rw [spec_PackBits.l0]) (Ev.ip (by omega) (Ev.ip (by omega) ?_))
  rw [rdF_nat l i h, wrap_succ i (by omega)]
  refine Ev.bind (spec_l01Bits.ev _ _ _ h1.2.1 (by omega) h1.1.1 h1.1.2 (by have := hlen i; omega)) ?_
  have h3 := ih (i + 1) (by omega)
  rw [List.take_succ_eq_append_getElem h, allBits_app] at h3
  simpa [allBits] using h3
theorem spec_PackBits.ev (l : List S124) (hl : l.length ≤ 1048576) : Ev (fun k => spec_PackBits.f k l) (if fldOk l then packM (allBits l) else []) := by
 unfold spec_PackBits.f
 refine Ev.bind (spec_FieldsOk.ev l hl) ?_
 by_cases h : fldOk l = true
 ·rw [if_pos h]
  have hok : l.all fOk = true := by unfold fldOk at h; rw [Bool.and_eq_true] at h; exact h.1
  exact Ev.ip h (spec_PackBits.l0_ev l hl hok l.length 0 (Nat.zero_add _))
 ·rw [if_neg h]
  exact Ev.ng h (Ev.now _)
end Go.Proofs.Ytcjjmfpkhhdmlaa.G


namespace Go.Proofs.Ytcjjmfpkhhdmlaa.G
open Go.RowKit Go.Proofs.YtcjjmfpkhhdmlaaW.PrintWords Go.Proofs.YtcjjmfpkhhdmlaaW.PrintLast Go.Proofs.YtcjjmfpkhhdmlaaW.PrintMore
attribute [local go_sem] max2_int min2_int max_two min_two max_three min_three max_four min_four   -- for this text's walks alone
def spec_LensOk.l0 : Nat → List Int → Int → Int → Option (Bool)
 | 0, _, _, _ => none
 | k + 1, x0, x3, x4 => if x4 < (x0.length : Int) then (if 0 ≤ x4 then ((spec_l01Between.f (rd x0 x4) 0 16).bind fun t102 => (if t102 = true then (if (rd x0 x4) > 0 then (if 0 ≤ (wrap64 (16 - (rd x0 x4))) then (spec_LensOk.l0 k x0 (wrap64 (x3 + (shl .i64 1 (wrap64 (16 - (rd x0 x4)))))) (wrap64 (x4 + 1))) else (none)) else (spec_LensOk.l0 k x0 x3 (wrap64 (x4 + 1)))) else (some false))) else (none)) else (if x3 > 0 then (some (decide (x3 ≤ 65536))) else (some false))
def spec_LensOk.f (k : Nat) (l0 : List Int) : Option (Bool) := if (l0.length : Int) > 256 then (some false) else (spec_LensOk.l0 k l0 0 0)
set_option maxHeartbeats 8000000 in
set_option maxRecDepth 100000 in
theorem spec_LensOk.calls (k : Nat) (A0 : Option Addr) (c0 : Nat) (l0 : List Int) (r : Bool) (w : World) (hr0 : Kd.C (Kd.int .i64) w A0 l0.length l0) (hc0 : l0.length ≤ c0) (h : spec_LensOk.f k l0 = some r) :
  Calls Try.prog 51 #[.slice A0 l0.length c0] w fun e w' => e = .returned (.bool r) ∧ Drawn0 w w' := by
 have HR0 := Aside0.mk hr0
 have HC0 := Aside0.mk hc0
 clear hr0 hc0
 have H : (if (l0.length : Int) > 256 then (some false) else (spec_LensOk.l0 k l0 0 0)) = some r := h
 clear h
 by_cases c2 : (l0.length : Int) > 256
 ·rw [if_pos c2] at H
  have c2b0 : decide (256 < (l0.length : Int)) = true := decide_eq_true c2
  have c2b1 : decide (256 < l0.length) = true := decide_eq_true (by omega)
  clear c2
  obtain rfl := Option.some.inj H
  go_enter Try.func51, Try.ntmps51
  go_wp2
  go_ret
  exact ⟨by first | rfl | (simp; done) | (simp [*]; done), by repeat (first | exact Drawn0.refl _ | apply Drawn0.step)⟩
 ·rw [if_neg c2] at H
  have c2b0 : decide (256 < (l0.length : Int)) = false := decide_eq_false c2
  have c2b1 : decide (256 < l0.length) = false := decide_eq_false (by omega)
  clear c2
  have H' := Aside0.mk H
  clear H
  go_enter Try.func51, Try.ntmps51
  go_wp2
  go_loopg [3, 4] k (fun kq v3 v4 w' => ∃ (x3_1 : Int) (x4_1 : Int), v3 = .int .i64 x3_1 ∧ v4 = .int .i64 x4_1 ∧ Aside0 (spec_LensOk.l0 kq l0 x3_1 x4_1 = some r) ∧ Aside0 (kq ≤ k) ∧ Drawn0 w w')
  case atStart => exact ⟨(0), (0), (by first | rfl | (simp; done) | (simp [*]; done)), (by first | rfl | (simp; done) | (simp [*]; done)), H', ⟨Nat.le_refl _⟩, by repeat (first | exact Drawn0.refl _ | apply Drawn0.step)⟩
  case round =>
   clear H'
   try clear c2
   try clear c2b0
   try clear c2b1
   try clear p2
   obtain ⟨x3_1, x4_1, rfl, rfl, HA, HK1, ⟨m1, rfl⟩⟩ := hrel
   cases gk with
   | zero => exact absurd HA.out (by simp [spec_LensOk.l0])
   | succ k1 =>
    have H := HA.out
    clear HA
    simp only [spec_LensOk.l0] at H
    by_cases c3 : x4_1 < (l0.length : Int)
    ·rw [if_pos c3] at H
     have c3b0 : decide (x4_1 < (l0.length : Int)) = true := decide_eq_true c3
     clear c3
     by_cases c4 : 0 ≤ x4_1
     ·rw [if_pos c4] at H
      have c4b0 : decide (0 ≤ x4_1) = true := decide_eq_true c4
      clear c4
      replace H := Option.bind_eq_some_iff.mp H
      obtain ⟨t102, A50, H⟩ := H
      replace H : (if t102 = true then (if (rd l0 x4_1) > 0 then (if 0 ≤ (wrap64 (16 - (rd l0 x4_1))) then (spec_LensOk.l0 k1 l0 (wrap64 (x3_1 + (shl .i64 1 (wrap64 (16 - (rd l0 x4_1)))))) (wrap64 (x4_1 + 1))) else (none)) else (spec_LensOk.l0 k1 l0 x3_1 (wrap64 (x4_1 + 1)))) else (some false)) = some r := H
      have A5 := Aside0.mk A50
      clear A50
      by_cases c6 : t102 = true
      ·subst c6
       have H1 : (if (rd l0 x4_1) > 0 then (if 0 ≤ (wrap64 (16 - (rd l0 x4_1))) then (spec_LensOk.l0 k1 l0 (wrap64 (x3_1 + (shl .i64 1 (wrap64 (16 - (rd l0 x4_1)))))) (wrap64 (x4_1 + 1))) else (none)) else (spec_LensOk.l0 k1 l0 x3_1 (wrap64 (x4_1 + 1)))) = some r := by rw [if_pos rfl] at H; exact H
       clear H
       have H := H1
       clear H1
       by_cases c7 : (rd l0 x4_1) > 0
       ·rw [if_pos c7] at H
        have c7b0 : decide (0 < (rd l0 x4_1)) = true := decide_eq_true c7
        clear c7
        obtain ⟨ji8, hji8⟩ : ∃ j_ : Int, (wrap64 (16 - (rd l0 x4_1))) = j_ := ⟨_, rfl⟩
        replace H : (if 0 ≤ (ji8) then (spec_LensOk.l0 k1 l0 (wrap64 (x3_1 + (shl .i64 1 (ji8)))) (wrap64 (x4_1 + 1))) else (none)) = some r := by first | (rw [hji8] at H; exact H) | (simp only [hji8] at H ⊢; exact H)
        (try rw [hji8] at A5)
        have hji8w : (IntKind.i64.wrap (16 - (rd l0 x4_1))) = ji8 := (i64_w _).trans hji8
        by_cases c9 : 0 ≤ (ji8)
        ·rw [if_pos c9] at H
         have c9b0 := eq_true c9
         have c9b1 : decide (0 ≤ (ji8)) = true := decide_eq_true c9
         clear c9
         obtain ⟨ji10, hji10⟩ : ∃ j_ : Int, (shl .i64 1 (ji8)) = j_ := ⟨_, rfl⟩
         replace H : (spec_LensOk.l0 k1 l0 (wrap64 (x3_1 + (ji10))) (wrap64 (x4_1 + 1))) = some r := by first | (rw [hji10] at H; exact H) | (simp only [hji10] at H ⊢; exact H)
         (try rw [hji10] at A5)
         have hji10_ : (IntKind.i64.wrap (1 * 2 ^ min (ji8).toNat 64)) = ji10 := hji10
         have hji10z : (ji8) ≤ 64 → (IntKind.i64.wrap (1 * 2 ^ (ji8).toNat)) = ji10 := shl_small hji10
         have hji10u : (IntKind.i64.wrap (2 ^ min (ji8).toNat 64)) = ji10 := by have h_ := hji10_; rw [Int.one_mul] at h_; exact h_
         have hji10v : (ji8) ≤ 64 → (IntKind.i64.wrap (2 ^ (ji8).toNat)) = ji10 := fun hle_ => by have h_ := hji10z hle_; rw [Int.one_mul] at h_; exact h_
         have hji10y : (wrap64 (1 * 2 ^ min (ji8).toNat 64)) = ji10 := (i64_w _).symm.trans hji10_
         have hji10x : (ji8) ≤ 64 → (wrap64 (1 * 2 ^ (ji8).toNat)) = ji10 := fun h_ => (i64_w _).symm.trans (hji10z h_)
         have H' := Aside0.mk H
         clear H
         have p101 : 0 ≤ (x4_1 : Int) := of_decide_eq_true (by first | (with_reducible assumption) | assumption)
         have q101 : x4_1 < (l0.length : Int) := of_decide_eq_true (by first | (with_reducible assumption) | assumption)
         obtain ⟨ad101, e101, hx101_0⟩ := Kd.at_int HR0.out x4_1 p101 q101
         cases e101
         replace p101 := eq_true p101
         replace q101 := eq_true q101
         go_wp2_with (first | ((with_reducible refine gate_callee (f := 78) rfl ?_); refine goesL_ (some 18) rfl rfl Try.func78 (by kernel_rfl) rfl #[.int .i64 (rd l0 x4_1), .int .i64 0, .int .i64 16] rfl (by (try simp only [List.map_toArray, List.map_cons, List.map_nil]); first | done | rfl | (simp only [List.length_drop, List.length_take]; rfl)) ?_; (with_reducible refine (spec_l01Between.calls (rd l0 x4_1) 0 16 true _ A5.out).mono ?_); rintro e w' ⟨rfl, ⟨nd, rfl⟩⟩; refine ⟨_, rfl, ?_⟩; have p103 : 0 ≤ (x4_1 : Int) := of_decide_eq_true (by first | (with_reducible assumption) | assumption); have q103 : x4_1 < (l0.length : Int) := of_decide_eq_true (by first | (with_reducible assumption) | assumption); obtain ⟨ad103, e103, hx103_0⟩ := Kd.at_int HR0.out x4_1 p103 q103; obtain rfl : ad101 = ad103 := (by injection e103); replace p103 := eq_true p103; replace q103 := eq_true q103; have p104 : 0 ≤ (x4_1 : Int) := of_decide_eq_true (by first | (with_reducible assumption) | assumption); have q104 : x4_1 < (l0.length : Int) := of_decide_eq_true (by first | (with_reducible assumption) | assumption); obtain ⟨ad104, e104, hx104_0⟩ := Kd.at_int HR0.out x4_1 p104 q104; obtain rfl : ad101 = ad104 := (by injection e104); replace p104 := eq_true p104; replace q104 := eq_true q104))
         go_roundg k1
         case measure => have := HK1.out; omega
         case rel => exact ⟨(wrap64 (x3_1 + (ji10))), (wrap64 (x4_1 + 1)), (by first | rfl | (simp; done) | (simp only [← hji10] <;> (first | rfl | simp)) | (simp [*]; done)), (by first | rfl | (simp; done) | (simp [*]; done)), H', ⟨by have := HK1.out; omega⟩, by repeat (first | exact Drawn0.refl _ | apply Drawn0.step)⟩
        ·rw [if_neg c9] at H
         exact absurd H (by simp)
       ·rw [if_neg c7] at H
        have c7b0 : decide (0 < (rd l0 x4_1)) = false := decide_eq_false c7
        clear c7
        have H' := Aside0.mk H
        clear H
        have p101 : 0 ≤ (x4_1 : Int) := of_decide_eq_true (by first | (with_reducible assumption) | assumption)
        have q101 : x4_1 < (l0.length : Int) := of_decide_eq_true (by first | (with_reducible assumption) | assumption)
        obtain ⟨ad101, e101, hx101_0⟩ := Kd.at_int HR0.out x4_1 p101 q101
        cases e101
        replace p101 := eq_true p101
        replace q101 := eq_true q101
        go_wp2_with (first | ((with_reducible refine gate_callee (f := 78) rfl ?_); refine goesL_ (some 18) rfl rfl Try.func78 (by kernel_rfl) rfl #[.int .i64 (rd l0 x4_1), .int .i64 0, .int .i64 16] rfl (by (try simp only [List.map_toArray, List.map_cons, List.map_nil]); first | done | rfl | (simp only [List.length_drop, List.length_take]; rfl)) ?_; (with_reducible refine (spec_l01Between.calls (rd l0 x4_1) 0 16 true _ A5.out).mono ?_); rintro e w' ⟨rfl, ⟨nd, rfl⟩⟩; refine ⟨_, rfl, ?_⟩; have p103 : 0 ≤ (x4_1 : Int) := of_decide_eq_true (by first | (with_reducible assumption) | assumption); have q103 : x4_1 < (l0.length : Int) := of_decide_eq_true (by first | (with_reducible assumption) | assumption); obtain ⟨ad103, e103, hx103_0⟩ := Kd.at_int HR0.out x4_1 p103 q103; obtain rfl : ad101 = ad103 := (by injection e103); replace p103 := eq_true p103; replace q103 := eq_true q103))
        go_roundg k1
        case measure => have := HK1.out; omega
        case rel => exact ⟨(x3_1), (wrap64 (x4_1 + 1)), (by first | rfl | (simp; done) | (simp [*]; done)), (by first | rfl | (simp; done) | (simp [*]; done)), H', ⟨by have := HK1.out; omega⟩, by repeat (first | exact Drawn0.refl _ | apply Drawn0.step)⟩
      ·replace c6 := Bool.eq_false_iff.mpr c6
       subst c6
       have H1 : (some false) = some r := by rw [if_neg (show ¬ (false = true) by decide)] at H; exact H
       clear H
       have H := H1
       clear H1
       obtain rfl := Option.some.inj H
       have p101 : 0 ≤ (x4_1 : Int) := of_decide_eq_true (by first | (with_reducible assumption) | assumption)
       have q101 : x4_1 < (l0.length : Int) := of_decide_eq_true (by first | (with_reducible assumption) | assumption)
       obtain ⟨ad101, e101, hx101_0⟩ := Kd.at_int HR0.out x4_1 p101 q101
       cases e101
       replace p101 := eq_true p101
       replace q101 := eq_true q101
       go_wp2_with (first | ((with_reducible refine gate_callee (f := 78) rfl ?_); refine goesL_ (some 18) rfl rfl Try.func78 (by kernel_rfl) rfl #[.int .i64 (rd l0 x4_1), .int .i64 0, .int .i64 16] rfl (by (try simp only [List.map_toArray, List.map_cons, List.map_nil]); first | done | rfl | (simp only [List.length_drop, List.length_take]; rfl)) ?_; (with_reducible refine (spec_l01Between.calls (rd l0 x4_1) 0 16 false _ A5.out).mono ?_); rintro e w' ⟨rfl, ⟨nd, rfl⟩⟩; refine ⟨_, rfl, ?_⟩))
       go_ret
       exact ⟨by first | rfl | (simp; done) | (simp [*]; done), by repeat (first | exact Drawn0.refl _ | apply Drawn0.step)⟩
     ·rw [if_neg c4] at H
      exact absurd H (by simp)
    ·rw [if_neg c3] at H
     have c3b0 : decide (x4_1 < (l0.length : Int)) = false := decide_eq_false c3
     clear c3
     by_cases c11 : x3_1 > 0
     ·rw [if_pos c11] at H
      have c11b0 : decide (0 < x3_1) = true := decide_eq_true c11
      clear c11
      obtain rfl := Option.some.inj H
      go_wp2
      go_ret
      exact ⟨by first | rfl | (simp; done) | (simp [*]; done), by repeat (first | exact Drawn0.refl _ | apply Drawn0.step)⟩
     ·rw [if_neg c11] at H
      have c11b0 : decide (0 < x3_1) = false := decide_eq_false c11
      clear c11
      obtain rfl := Option.some.inj H
      go_wp2
      go_ret
      exact ⟨by first | rfl | (simp; done) | (simp [*]; done), by repeat (first | exact Drawn0.refl _ | apply Drawn0.step)⟩
theorem spec_LensOk.ev (lens : List Int) : Ev (fun k => spec_LensOk.f k lens) (lensOkM lens) := by
 unfold spec_LensOk.f lensOkM
 by_cases h1 : 256 < lens.length
 ·refine Ev.ip (by omega) (Ev.eq (Ev.now _) ?_)
  rw [decide_eq_false (by omega)]; rfl
 refine Ev.ng (by omega) ?_
 rw [decide_eq_true (show lens.length ≤ 256 by omega), Bool.true_and]
 have key : ∀ d i : Nat, ∀ s : Int, lens.length - i = d → i ≤ lens.length → 0 ≤ s → s ≤ i * 32768 → s + kraft (lens.drop i) = kraft lens → Ev (fun k => spec_LensOk.l0 k lens s (i : Int)) (allW 0 16 (lens.drop i) && (decide (1 ≤ kraft lens) && decide (kraft lens ≤ 65536))) := by
  intro d
  induction d with
  | zero =>
   intro i s hd hi _ _ hs
   refine Ev.step (fun _ => by rw [spec_LensOk.l0]) (Ev.ng (by omega) ?_)
   rw [List.drop_of_length_le (by omega)] at hs ⊢
   simp only [kraft, Int.add_zero] at hs
   rw [hs]
   by_cases hp : kraft lens > 0
   ·exact Ev.ip hp (Ev.eq (Ev.now _) (by rw [decide_eq_true (show 1 ≤ kraft lens by omega)]; simp [allW]))
   ·exact Ev.ng hp (Ev.eq (Ev.now _) (by rw [decide_eq_false (show ¬ 1 ≤ kraft lens by omega)]; simp))
  | succ d ih =>
   intro i s hd hi h0 hb hs
   have hlt : i < lens.length := by omega
   rw [List.drop_eq_getElem_cons hlt] at hs ⊢
   simp only [kraft] at hs
   refine Ev.step (fun _ => by rw [spec_LensOk.l0]) (Ev.ip (by omega) (Ev.ip (by omega) ?_))
   rw [rd_nat lens i hlt, wrap_succ i (by omega)]
   refine Ev.bind (Ev.c (spec_l01Between.val _ _ _)) ?_
   have ha : allW 0 16 (lens[i] :: lens.drop (i + 1)) = ((decide (0 ≤ lens[i]) && decide (lens[i] ≤ 16)) && allW 0 16 (lens.drop (i + 1))) := by unfold allW; rw [List.all_cons]
   rw [ha]
   by_cases hx : 0 ≤ lens[i] ∧ lens[i] ≤ 16
   ·rw [show (decide (0 ≤ lens[i]) && decide (lens[i] ≤ 16)) = true by simp [hx.1, hx.2], Bool.true_and]
    refine Ev.ip rfl ?_
    by_cases hp : 0 < lens[i]
    ·have hpw := pow16 _ hp hx.2
     rw [if_pos hp] at hs
     rw [wrap_in (16 - lens[i]) (by omega) (by omega), shl1 _ (by omega) (by omega), wrap_in _ (by omega) (by omega)]
     exact Ev.ip hp (Ev.ip (by omega) (ih (i + 1) _ (by omega) (by omega) (by omega) (by push_cast; omega) (by omega)))
    ·rw [if_neg hp] at hs
     exact Ev.ng hp (ih (i + 1) _ (by omega) (by omega) (by omega) (by push_cast; omega) (by omega))
   ·have hf : (decide (0 ≤ lens[i]) && decide (lens[i] ≤ 16)) = false := by
     rw [Bool.eq_false_iff]; intro h; simp only [Bool.and_eq_true, decide_eq_true_eq] at h; exact hx h
    rw [hf]
    exact Ev.ng (by decide) (Ev.eq (Ev.now _) (by simp))
 exact key _ 0 0 rfl (by omega) (by omega) (by omega) (by simp)
end Go.Proofs.Ytcjjmfpkhhdmlaa.G


namespace Go.Proofs.Ytcjjmfpkhhdmlaa.G
open Go.RowKit Go.Proofs.YtcjjmfpkhhdmlaaW.PrintWords Go.Proofs.YtcjjmfpkhhdmlaaW.PrintLast Go.Proofs.YtcjjmfpkhhdmlaaW.PrintMore
attribute [local go_sem] max2_int min2_int max_two min_two max_three min_three max_four min_four   -- for this text's walks alone
mutual
def spec_CodesOf.l0 : Nat → List Int → List (S124) → Int → Int → Option ((List (S124)))
 | 0, _, _, _, _ => none
 | k + 1, x0, x3, x4, x5 => if x5 ≤ 16 then (spec_CodesOf.l1 k x0 x3 (wrap64 (2 * x4)) x5 0) else (some x3)
def spec_CodesOf.l1 : Nat → List Int → List (S124) → Int → Int → Int → Option ((List (S124)))
 | 0, _, _, _, _, _ => none
 | k + 1, x0, x3, x4, x5, x6 => if x6 < (x0.length : Int) then (if 0 ≤ x6 then (if (rd x0 x6) = x5 then (if x6 < (x3.length : Int) then (spec_CodesOf.l1 k x0 (x3.set (x6 : Int).toNat (⟨x5, x4⟩ : S124)) (wrap64 (x4 + 1)) x5 (wrap64 (x6 + 1))) else (none)) else (spec_CodesOf.l1 k x0 x3 x4 x5 (wrap64 (x6 + 1)))) else (none)) else (spec_CodesOf.l0 k x0 x3 x4 (wrap64 (x5 + 1)))
end
def spec_CodesOf.f (k : Nat) (l0 : List Int) : Option ((List (S124))) := (spec_LensOk.f k l0).bind fun t105 => (if t105 = true then (if 0 ≤ (l0.length : Int) then (if ((l0.length : Int) : Int).toNat ≤ 17592186044416 then (spec_CodesOf.l0 k l0 (List.replicate ((l0.length : Int) : Int).toNat z124) 0 1) else (none)) else (none)) else (some (([] : List (S124)))))
set_option maxHeartbeats 8000000 in
set_option maxRecDepth 100000 in
theorem spec_CodesOf.calls (k : Nat) (A0 : Option Addr) (c0 : Nat) (l0 : List Int) (r : List (S124)) (w : World) (hr0 : Kd.C (Kd.int .i64) w A0 l0.length l0) (hc0 : l0.length ≤ c0) (h : spec_CodesOf.f k l0 = some r) :
  Calls Try.prog 77 #[.slice A0 l0.length c0] w fun e w' => ∃ v0_ : Value, e = .returned (v0_) ∧ Kd.R k124 124 w' w.heap.size (fun _ => True) v0_ r ∧ Below w.heap.size w w' := by
 have hu124 := Try.underlying124
 have HR0 := Aside0.mk hr0
 have HC0 := Aside0.mk hc0
 clear hr0 hc0
 have HB := Aside0.mk (Below.refl w.heap.size w)
 have H : ((spec_LensOk.f k l0).bind fun t105 => (if t105 = true then (if 0 ≤ (l0.length : Int) then (if ((l0.length : Int) : Int).toNat ≤ 17592186044416 then (spec_CodesOf.l0 k l0 (List.replicate ((l0.length : Int) : Int).toNat z124) 0 1) else (none)) else (none)) else (some (([] : List (S124)))))) = some r := h
 clear h
 replace H := Option.bind_eq_some_iff.mp H
 obtain ⟨t105, A20, H⟩ := H
 replace H : (if t105 = true then (if 0 ≤ (l0.length : Int) then (if ((l0.length : Int) : Int).toNat ≤ 17592186044416 then (spec_CodesOf.l0 k l0 (List.replicate ((l0.length : Int) : Int).toNat z124) 0 1) else (none)) else (none)) else (some (([] : List (S124))))) = some r := H
 have A2 := Aside0.mk A20
 clear A20
 by_cases c3 : t105 = true
 ·subst c3
  have H1 : (if 0 ≤ (l0.length : Int) then (if ((l0.length : Int) : Int).toNat ≤ 17592186044416 then (spec_CodesOf.l0 k l0 (List.replicate ((l0.length : Int) : Int).toNat z124) 0 1) else (none)) else (none)) = some r := by rw [if_pos rfl] at H; exact H
  clear H
  have H := H1
  clear H1
  by_cases c4 : 0 ≤ (l0.length : Int)
  ·rw [if_pos c4] at H
   have c4b0 := eq_true c4
   have c4b1 : decide (0 ≤ (l0.length : Int)) = true := decide_eq_true c4
   clear c4
   by_cases c5 : ((l0.length : Int) : Int).toNat ≤ 17592186044416
   ·rw [if_pos c5] at H
    have c5b0 := eq_true c5
    have c5b1 : decide (((l0.length : Int) : Int).toNat ≤ 17592186044416) = true := decide_eq_true c5
    clear c5
    obtain ⟨y109, hy109⟩ : ∃ y_ : List (S124), y_ = (List.replicate ((l0.length : Int) : Int).toNat z124) := ⟨_, rfl⟩
    replace H : (spec_CodesOf.l0 k l0 y109 0 1) = some r := by first | (rw [hy109]; with_reducible exact H) | (have H2_ := (Option.bind_some _ _).symm.trans H; rw [hy109]; with_reducible exact H2_) | (have H2_ := (Option.bind_some _ _).symm.trans H; with_reducible exact H2_) | with_reducible exact H | (rw [hy109]; exact H) | exact H
    have Ny109 := Aside0.mk hy109
    clear hy109
    have H' := Aside0.mk H
    clear H
    go_enter Try.func77, Try.ntmps77
    go_wp2_with (first | ((with_reducible refine gate_callee (f := 51) rfl ?_); refine goesL_ (some 8) rfl rfl Try.func51 (by kernel_rfl) rfl #[.slice A0 l0.length c0] rfl (by (try simp only [List.map_toArray, List.map_cons, List.map_nil]); first | done | rfl | (simp only [List.length_drop, List.length_take]; rfl)) ?_; (with_reducible refine (spec_LensOk.calls k _ _ l0 true _ ?side1 ?side2 A2.out).mono ?_); (case side1 => repeat (first | exact HR0.out | (with_reducible refine Kd.C_alloc ?_ _) | (with_reducible refine Kd.C_drewN ?_ _) | (with_reducible refine Kd.C_drew ?_))); (case side2 => exact HC0.out); rintro e w' ⟨rfl, ⟨nd, rfl⟩⟩; refine ⟨_, rfl, ?_⟩) | ((with_reducible refine gate_dst (N := 13) rfl ?_); refine Kd.R_make k124 _ 124 rfl (N := 13) rfl 87 _ _ rfl (l0.length : Int) rfl rfl Try.underlying87 (.agg #[(.int .i64 0), (.int .i64 0)]) 16 info124 rfl (by decide) (by omega) z124 (ok := fun _ => True) (okp := fun _ => True) (k124_mkM _ _ _ z124 ) (fun _ hk => hk) trivial (of_decide_eq_true (by first | (with_reducible assumption) | assumption)) (Nat.le_trans (Nat.mul_le_mul_right _ (of_decide_eq_true (by first | (with_reducible assumption) | assumption) : (l0.length : Int).toNat ≤ 17592186044416)) (by omega)) (Below.refl _ _) (Nat.le_refl _) ?_; intro v110 w6 ho7 hb hg_ hnew_; clear hg_ hnew_; (first | rw [← Ny109.out] at ho7 | (simp only [Int.reduceToNat] at ho7; rw [← Ny109.out] at ho7)); have n0_ := Aside0.mk (Kd.R_lower ho7 (below_size (by repeat (first | (with_reducible first | exact HB.out | apply below_alloc | apply pw_below_drewN | apply below_drew1) | exact HB.out)))); have n1_ := Aside0.mk (below_step (by repeat (first | (with_reducible first | exact HB.out | apply below_alloc | apply pw_below_drewN | apply below_drew1) | exact HB.out)) hb); clear HB; have HO111 := n0_; have HB := n1_; clear n0_ n1_; clear hb ho7))
    go_loopg [4, 5] k (fun kq v4 v5 w' => ∃ (x3_1 : List (S124)) (x4_1 : Int) (x5_1 : Int), v4 = .int .i64 x4_1 ∧ v5 = .int .i64 x5_1 ∧ Aside0 (spec_CodesOf.l0 kq l0 x3_1 x4_1 x5_1 = some r) ∧ Aside0 (kq ≤ k) ∧ Aside0 (Kd.R k124 124 w' w.heap.size (fun _ => True) v110 x3_1) ∧ Aside0 (Below w.heap.size w w'))
    case atStart => exact ⟨(y109), (0), (1), (by first | rfl | (simp; done) | (simp [*]; done)), (by first | rfl | (simp; done) | (simp [*]; done)), H', ⟨Nat.le_refl _⟩, ⟨by (with_reducible repeat (first | apply Kd.R_alloc | apply Kd.R_drewN | apply Kd.R_drew)); exact HO111.out⟩, ⟨by repeat (first | (with_reducible first | exact HB.out | apply below_alloc | apply pw_below_drewN | apply below_drew1) | exact HB.out)⟩⟩
    case round =>
     clear H'
     try clear p2
     try clear c3
     try clear c4
     try clear c4b0
     try clear c4b1
     try clear c5
     try clear c5b0
     try clear c5b1
     try clear c7
     obtain ⟨x3_1, x4_1, x5_1, rfl, rfl, HA, HK1, HO_3, HB⟩ := hrel
     cases gk with
     | zero => exact absurd HA.out (by simp [spec_CodesOf.l0])
     | succ k1 =>
      have H := HA.out
      clear HA
      simp only [spec_CodesOf.l0] at H
      by_cases c8 : x5_1 ≤ 16
      ·rw [if_pos c8] at H
       have c8b0 : decide (x5_1 ≤ 16) = true := decide_eq_true c8
       clear c8
       have H' := Aside0.mk H
       clear H
       go_wp2
       go_loopg [4, 6] k1 (fun kq v4 v6 w' => ∃ (x3_2 : List (S124)) (x4_2 : Int) (x6_2 : Int), v4 = .int .i64 x4_2 ∧ v6 = .int .i64 x6_2 ∧ Aside0 (spec_CodesOf.l1 kq l0 x3_2 x4_2 x5_1 x6_2 = some r) ∧ Aside0 (kq ≤ k1) ∧ Aside0 (Kd.R k124 124 w' w.heap.size (fun _ => True) v110 x3_2) ∧ Aside0 (Below w.heap.size w w'))
       case atStart => exact ⟨(x3_1), (wrap64 (2 * x4_1)), (0), (by first | rfl | (simp; done) | (simp [*]; done)), (by first | rfl | (simp; done) | (simp [*]; done)), H', ⟨Nat.le_refl _⟩, ⟨by (with_reducible repeat (first | apply Kd.R_alloc | apply Kd.R_drewN | apply Kd.R_drew)); exact HO_3.out⟩, ⟨by repeat (first | (with_reducible first | exact HB.out | apply below_alloc | apply pw_below_drewN | apply below_drew1) | exact HB.out)⟩⟩
       case round =>
        clear H'
        try clear p2
        try clear c3
        try clear c4
        try clear c4b0
        try clear c4b1
        try clear c5
        try clear c5b0
        try clear c5b1
        try clear p6
        try clear c7
        try clear c8
        try clear c8b0
        try clear p2
        obtain ⟨x3_2, x4_2, x6_2, rfl, rfl, HA, HK2, HO_3, HB⟩ := hrel
        cases gk with
        | zero => exact absurd HA.out (by simp [spec_CodesOf.l1])
        | succ k2 =>
         have H := HA.out
         clear HA
         simp only [spec_CodesOf.l1] at H
         by_cases c9 : x6_2 < (l0.length : Int)
         ·rw [if_pos c9] at H
          have c9b0 : decide (x6_2 < (l0.length : Int)) = true := decide_eq_true c9
          clear c9
          by_cases c10 : 0 ≤ x6_2
          ·rw [if_pos c10] at H
           have c10b0 : decide (0 ≤ x6_2) = true := decide_eq_true c10
           clear c10
           by_cases c11 : (rd l0 x6_2) = x5_1
           ·rw [if_pos c11] at H
            have c11b0 : ((rd l0 x6_2) == x5_1) = true := beq_iff_eq.mpr c11
            have c11b1 : ((rd l0 x6_2) != x5_1) = false := bne_eq_false_iff_eq.mpr c11
            clear c11
            by_cases c12 : x6_2 < (x3_2.length : Int)
            ·rw [if_pos c12] at H
             have c12b0 : decide (x6_2 < (x3_2.length : Int)) = true := decide_eq_true c12
             clear c12
             obtain ⟨y113, hy113⟩ : ∃ y_ : List (S124), y_ = (x3_2.set (x6_2 : Int).toNat (⟨x5_1, x4_2⟩ : S124)) := ⟨_, rfl⟩
             replace H : (spec_CodesOf.l1 k2 l0 y113 (wrap64 (x4_2 + 1)) x5_1 (wrap64 (x6_2 + 1))) = some r := by first | (rw [hy113]; with_reducible exact H) | (have H2_ := (Option.bind_some _ _).symm.trans H; rw [hy113]; with_reducible exact H2_) | (have H2_ := (Option.bind_some _ _).symm.trans H; with_reducible exact H2_) | with_reducible exact H | (rw [hy113]; exact H) | exact H
             have Ny113 := Aside0.mk hy113
             clear hy113
             have H' := Aside0.mk H
             clear H
             have p112 : 0 ≤ (x6_2 : Int) := of_decide_eq_true (by first | (with_reducible assumption) | assumption)
             have q112 : x6_2 < (l0.length : Int) := of_decide_eq_true (by first | (with_reducible assumption) | assumption)
             obtain ⟨ad112, e112, hx112_0⟩ := Kd.at_int HR0.out x6_2 p112 q112
             cases e112
             replace hx112_0 := (HB.out.cell (World.block_lt_of_cell? w _ hx112_0)).trans hx112_0
             replace p112 := eq_true p112
             replace q112 := eq_true q112
             have p13 : 0 ≤ (x6_2 : Int) := of_decide_eq_true (by first | (with_reducible assumption) | assumption)
             have q13 : (x6_2 : Int) < ((x3_2.length : Int) : Int) := of_decide_eq_true (by first | (with_reducible assumption) | assumption)
             obtain ⟨go13, co13, eo13, gb13, gl13, cl13, HG13⟩ := Kd.R_form HO_3.out (by omega)
             (first | cases eo13 | (injection eo13 with ea_ en_ ec_; (first | subst ea_ | (injection ea_ with ea_; subst ea_)); subst ec_; clear en_))
             have GB13 := Aside0.mk gb13
             have GG13 := Aside0.mk HG13
             clear gb13 gl13 HG13
             obtain ⟨ce13, hcl13, hM13, hcc13, hfr13⟩ := Kd.R_elem HO_3.out z124 (x6_2 : Int) p13 q13
             obtain rfl := k124_openM hM13
             have hx13_0 : wr.cell? ⟨go13, (x6_2 : Int).toNat * 2, none⟩ = some (.int .i64 ((rd_T124 x3_2 x6_2).f0)) := hcc13 0 _ rfl
             have hx13_1 : wr.cell? ⟨go13, (x6_2 : Int).toNat * 2 + 1, none⟩ = some (.int .i64 ((rd_T124 x3_2 x6_2).f1)) := hcc13 1 _ rfl
             have hf13_0 : wr.frozen? ⟨go13, (x6_2 : Int).toNat * 2, none⟩ = false := hfr13 0
             have hf13_1 : wr.frozen? ⟨go13, (x6_2 : Int).toNat * 2 + 1, none⟩ = false := hfr13 1
             clear hcl13 hcc13 hfr13; (try clear hM13)
             replace p13 := eq_true p13
             replace q13 := eq_true q13
             have HX14 := Aside0.mk (show Kd.R k124 124 wr w.heap.size (fun _ => True) (.slice (some ⟨go13, 0, none⟩) x3_2.length co13) x3_2 from (by (with_reducible repeat (first | apply Kd.R_alloc | apply Kd.R_drewN | apply Kd.R_drew)); exact HO_3.out))
             obtain ⟨ce14, hcl14, hM14, hcc14, hfr14⟩ := Kd.R_elem HX14.out z124 (x6_2 : Int) (of_decide_eq_true (by first | (with_reducible assumption) | assumption)) (by have h_ : (x6_2 : Int) < ((x3_2.length : Int) : Int) := of_decide_eq_true (by first | (with_reducible assumption) | assumption); first | exact h_ | (have e_ := (Kd.R_reads' HO_3.out).1; omega) | simpa using h_)
             obtain rfl := k124_openM hM14
             have HP14 := Kd.R_seg HX14.out (x6_2 : Int) (of_decide_eq_true (by first | (with_reducible assumption) | assumption)) (by have h_ : (x6_2 : Int) < ((x3_2.length : Int) : Int) := of_decide_eq_true (by first | (with_reducible assumption) | assumption); first | exact h_ | (have e_ := (Kd.R_reads' HO_3.out).1; omega) | simpa using h_) (seg := [.int .i64 x5_1, .int .i64 x4_2]) (j := 0) hcl14 hcc14 (show 2 ≤ 2 from by decide) (x' := (⟨x5_1, x4_2⟩ : S124)) (k124_mkM _ _ _ (⟨x5_1, x4_2⟩ : S124) ) (fun _ hk => hk)
             have hx14_0 := hcc14 0 _ rfl
             (try simp only [show (k124).sz = 2 from rfl, Nat.mul_one, Nat.add_zero] at hx14_0)
             have hf14_0 := hfr14 0
             (try simp only [show (k124).sz = 2 from rfl, Nat.mul_one, Nat.add_zero] at hf14_0)
             have hx14_1 := hcc14 1 _ rfl
             (try simp only [show (k124).sz = 2 from rfl, Nat.mul_one, Nat.add_zero] at hx14_1)
             have hf14_1 := hfr14 1
             (try simp only [show (k124).sz = 2 from rfl, Nat.mul_one, Nat.add_zero] at hf14_1)
             clear hcl14 hcc14 hfr14; (try clear hM14)
             go_wp2_with (first | ((with_reducible refine gate_store (t := 124) (p := 37) rfl ?_); refine store_event (t := 124) (p := 37) (v := ?vo_w15) (w1 := ((wr.setCell ⟨go13, (x6_2 : Int).toNat * 2, none⟩ (.int .i64 x5_1)).setCell ⟨go13, (x6_2 : Int).toNat * 2 + 1, none⟩ (.int .i64 x4_2))) ?hg ?ho ?hn ?hr ?_; (case ho => rfl); (case hg => rfl); (case hn => rfl); (case hr => first | (go_simp; done) | (go_simp; rfl)); intro w15 hw; have hg : wr.grownBy w15 (some go13) := (by rw [hw]; exact HP14.2); have hp_ : Kd.R k124 124 w15 w.heap.size (fun _ => True) (.slice (some ⟨go13, 0, none⟩) x3_2.length co13) y113 := (by rw [hw, Ny113.out]; exact HP14.1); clear HP14; have n0_ := Aside0.mk (hp_); have n1_ := Aside0.mk ((by rw [hw]; exact below_set (below_set (HB.out) GB13.out) GB13.out : Below w.heap.size w w15)); clear HO_3; clear HB; have HO_3 := n0_; have HB := n1_; clear n0_ n1_; clear hg hw hp_))
             go_roundg k2
             case measure => have := HK1.out; have := HK2.out; omega
             case rel => exact ⟨(y113), (wrap64 (x4_2 + 1)), (wrap64 (x6_2 + 1)), (by first | rfl | (simp; done) | (simp [*]; done)), (by first | rfl | (simp; done) | (simp [*]; done)), H', ⟨by have := HK1.out; have := HK2.out; omega⟩, ⟨by (with_reducible repeat (first | apply Kd.R_alloc | apply Kd.R_drewN | apply Kd.R_drew)); exact HO_3.out⟩, ⟨by repeat (first | (with_reducible first | exact HB.out | apply below_alloc | apply pw_below_drewN | apply below_drew1) | exact HB.out)⟩⟩
            ·rw [if_neg c12] at H
             exact absurd H (by simp)
           ·rw [if_neg c11] at H
            have c11b0 : ((rd l0 x6_2) == x5_1) = false := beq_eq_false_iff_ne.mpr c11
            have c11b1 : ((rd l0 x6_2) != x5_1) = true := bne_iff_ne.mpr c11
            have H' := Aside0.mk H
            clear H
            have p112 : 0 ≤ (x6_2 : Int) := of_decide_eq_true (by first | (with_reducible assumption) | assumption)
            have q112 : x6_2 < (l0.length : Int) := of_decide_eq_true (by first | (with_reducible assumption) | assumption)
            obtain ⟨ad112, e112, hx112_0⟩ := Kd.at_int HR0.out x6_2 p112 q112
            cases e112
            replace hx112_0 := (HB.out.cell (World.block_lt_of_cell? w _ hx112_0)).trans hx112_0
            replace p112 := eq_true p112
            replace q112 := eq_true q112
            go_wp2
            go_roundg k2
            case measure => have := HK1.out; have := HK2.out; omega
            case rel => exact ⟨(x3_2), (x4_2), (wrap64 (x6_2 + 1)), (by first | rfl | (simp; done) | (simp [*]; done)), (by first | rfl | (simp; done) | (simp [*]; done)), H', ⟨by have := HK1.out; have := HK2.out; omega⟩, ⟨by (with_reducible repeat (first | apply Kd.R_alloc | apply Kd.R_drewN | apply Kd.R_drew)); exact HO_3.out⟩, ⟨by repeat (first | (with_reducible first | exact HB.out | apply below_alloc | apply pw_below_drewN | apply below_drew1) | exact HB.out)⟩⟩
          ·rw [if_neg c10] at H
           exact absurd H (by simp)
         ·rw [if_neg c9] at H
          have c9b0 : decide (x6_2 < (l0.length : Int)) = false := decide_eq_false c9
          clear c9
          have H' := Aside0.mk H
          clear H
          go_wp2
          go_roundg k2
          case measure => have := HK1.out; have := HK2.out; omega
          case rel => exact ⟨(x3_2), (x4_2), (wrap64 (x5_1 + 1)), (by first | rfl | (simp; done) | (simp [*]; done)), (by first | rfl | (simp; done) | (simp [*]; done)), H', ⟨by have := HK1.out; have := HK2.out; omega⟩, ⟨by (with_reducible repeat (first | apply Kd.R_alloc | apply Kd.R_drewN | apply Kd.R_drew)); exact HO_3.out⟩, ⟨by repeat (first | (with_reducible first | exact HB.out | apply below_alloc | apply pw_below_drewN | apply below_drew1) | exact HB.out)⟩⟩
      ·rw [if_neg c8] at H
       have c8b0 : decide (x5_1 ≤ 16) = false := decide_eq_false c8
       clear c8
       obtain rfl := Option.some.inj H
       go_wp2
       go_ret
       exact ⟨_, by first | rfl | (simp [errW_none, errW_some] <;> rfl) | (simp [*, errW_none, errW_some] <;> rfl), by (with_reducible repeat (first | apply Kd.R_alloc | apply Kd.R_drewN | apply Kd.R_drew)); exact HO_3.out, by repeat (first | (with_reducible first | exact HB.out | apply below_alloc | apply pw_below_drewN | apply below_drew1) | exact HB.out)⟩
   ·rw [if_neg c5] at H
    exact absurd H (by simp)
  ·rw [if_neg c4] at H
   exact absurd H (by simp)
 ·replace c3 := Bool.eq_false_iff.mpr c3
  subst c3
  have H1 : (some (([] : List (S124)))) = some r := by rw [if_neg (show ¬ (false = true) by decide)] at H; exact H
  clear H
  have H := H1
  clear H1
  obtain ⟨y106, hy106⟩ : ∃ y_ : List (S124), y_ = (([] : List (S124))) := ⟨_, rfl⟩
  replace H : (some y106) = some r := by first | (rw [hy106]; with_reducible exact H) | (have H2_ := (Option.bind_some _ _).symm.trans H; rw [hy106]; with_reducible exact H2_) | (have H2_ := (Option.bind_some _ _).symm.trans H; with_reducible exact H2_) | with_reducible exact H | (rw [hy106]; exact H) | exact H
  have Ny106 := Aside0.mk hy106
  clear hy106
  obtain rfl := Option.some.inj H
  go_enter Try.func77, Try.ntmps77
  go_wp2_with (first | ((with_reducible refine gate_callee (f := 51) rfl ?_); refine goesL_ (some 8) rfl rfl Try.func51 (by kernel_rfl) rfl #[.slice A0 l0.length c0] rfl (by (try simp only [List.map_toArray, List.map_cons, List.map_nil]); first | done | rfl | (simp only [List.length_drop, List.length_take]; rfl)) ?_; (with_reducible refine (spec_LensOk.calls k _ _ l0 false _ ?side1 ?side2 A2.out).mono ?_); (case side1 => repeat (first | exact HR0.out | (with_reducible refine Kd.C_alloc ?_ _) | (with_reducible refine Kd.C_drewN ?_ _) | (with_reducible refine Kd.C_drew ?_))); (case side2 => exact HC0.out); rintro e w' ⟨rfl, ⟨nd, rfl⟩⟩; refine ⟨_, rfl, ?_⟩) | ((with_reducible refine gate_dst (N := 10) rfl ?_); refine Kd.R_lit k124 _ 124 ?hg (N := 10) ?hd (xs := ([] : List (S124))) (inner := []) (ok := fun _ => True) (okp := fun _ => True) ?hr ?hp (fun _ hk => hk) trivial (Below.refl _ _) (Nat.le_refl _) (by simp) ?_; (case hd => rfl); (case hg => rfl); (case hr => first | (go_simp; done) | (go_simp; rfl)); (case hp => exact (Reps.none _ _)); intro v107 w16 ho17 hb hg_ hnew_; clear hg_ hnew_; (first | rw [← Ny106.out] at ho17 | (simp only [Int.reduceToNat] at ho17; rw [← Ny106.out] at ho17)); have n0_ := Aside0.mk (Kd.R_lower ho17 (below_size (by repeat (first | (with_reducible first | exact HB.out | apply below_alloc | apply pw_below_drewN | apply below_drew1) | exact HB.out)))); have n1_ := Aside0.mk (below_step (by repeat (first | (with_reducible first | exact HB.out | apply below_alloc | apply pw_below_drewN | apply below_drew1) | exact HB.out)) hb); clear HB; have HO108 := n0_; have HB := n1_; clear n0_ n1_; clear hb ho17))
  go_ret
  exact ⟨_, by first | rfl | (simp [errW_none, errW_some] <;> rfl) | (simp [*, errW_none, errW_some] <;> rfl), by (with_reducible repeat (first | apply Kd.R_alloc | apply Kd.R_drewN | apply Kd.R_drew)); exact HO108.out, by repeat (first | (with_reducible first | exact HB.out | apply below_alloc | apply pw_below_drewN | apply below_drew1) | exact HB.out)⟩
theorem spec_CodesOf.ev (lens : List Int) : Ev (fun k => spec_CodesOf.f k lens) (codesM lens) := by
 unfold spec_CodesOf.f codesM
 refine Ev.bind (spec_LensOk.ev lens) ?_
 cases hok : lensOkM lens with
 | false => exact Ev.ng (by decide) (Ev.now _)
 | true =>
  obtain ⟨hn, hx, _, _⟩ := lensOk_parts hok
  refine Ev.ip rfl (Ev.ip (by omega) (Ev.ip (by omega) ?_))
  rw [if_pos rfl, Int.toNat_natCast, ← codesP_start]
  have outer : ∀ e l : Nat, 17 - l = e → 1 ≤ l → l ≤ 17 → Ev (fun k => spec_CodesOf.l0 k lens (codesP lens l 0) (nextC lens (l - 1)) (l : Int)) (codesP lens 17 0) := by
   intro e
   induction e with
   | zero =>
    intro l he h1 h2
    obtain rfl : l = 17 := by omega
    exact Ev.step (fun _ => by rw [spec_CodesOf.l0]) (Ev.ng (by omega) (Ev.now _))
   | succ e ihe =>
    intro l he h1 h2
    refine Ev.step (fun _ => by rw [spec_CodesOf.l0]) (Ev.ip (by omega) ?_)
    have hnx := nextC_in lens hn (l - 1) (by omega)
    rw [wrap_in (2 * nextC lens (l - 1)) (by omega) (by omega), Int.mul_comm, ← codeC_first]
    have inner : ∀ d i : Nat, lens.length - i = d → i ≤ lens.length → Ev (fun k => spec_CodesOf.l1 k lens (codesP lens l i) (codeC lens l i) (l : Int) (i : Int)) (codesP lens 17 0) := by
     intro d
     induction d with
     | zero =>
      intro i hd hi
      obtain rfl : i = lens.length := by omega
      refine Ev.step (fun _ => by rw [spec_CodesOf.l1]) (Ev.ng (by omega) ?_)
      have := ihe (l + 1) (by omega) (by omega) (by omega)
      rw [codesP_up, codeC_next lens l h1, wrap_succ l (by omega)]
      exact this
     | succ d ih =>
      intro i hd hi
      have hlt : i < lens.length := by omega
      have hci := codeC_in lens hn l i h1 (by omega) (by omega)
      refine Ev.step (fun _ => by rw [spec_CodesOf.l1]) (Ev.ip (by omega) (Ev.ip (by omega) ?_))
      rw [wrap_succ i (by omega)]
      by_cases he : rd lens (i : Int) = (l : Int)
      ·refine Ev.ip he (Ev.ip (by rw [codesP_length]; omega) ?_)
       rw [Int.toNat_natCast, codesP_set lens l i h1 hlt he, wrap_in _ (by omega) (by omega), ← codeC_step lens l i he]
       exact ih (i + 1) (by omega) (by omega)
      ·refine Ev.ng he ?_
       rw [codesP_skip lens l i he, ← codeC_skip lens l i he]
       exact ih (i + 1) (by omega) (by omega)
    exact inner _ 0 rfl (by omega)
  have := outer _ 1 rfl (by omega) (by omega)
  exact this
end Go.Proofs.Ytcjjmfpkhhdmlaa.G


namespace Go.Proofs.Ytcjjmfpkhhdmlaa.G
open Go.RowKit Go.Proofs.YtcjjmfpkhhdmlaaW.PrintWords Go.Proofs.YtcjjmfpkhhdmlaaW.PrintLast Go.Proofs.YtcjjmfpkhhdmlaaW.PrintMore
attribute [local go_sem] max2_int min2_int max_two min_two max_three min_three max_four min_four   -- for this text's walks alone
mutual
def spec_CodeText.j0 : Nat → List Int → List Int → List (S124) → List (S124) → Bool → Option (List Int)
 | 0, _, _, _, _, _ => none
 | k + 1, x0, x1, x5, x6, x19 => if x19 = true then (some (([] : List Int))) else (spec_CodeText.l0 k x0 x1 x5 x6 0)
def spec_CodeText.l0 : Nat → List Int → List Int → List (S124) → List (S124) → Int → Option (List Int)
 | 0, _, _, _, _, _ => none
 | k + 1, x0, x1, x5, x6, x7 => if x7 < (x1.length : Int) then (if 0 ≤ x7 then ((spec_l01Between.f (rd x1 x7) 0 (wrap64 ((x0.length : Int) - 1))).bind fun t894 => (if t894 = true then (if 0 ≤ (rd x1 x7) then (if (rd x1 x7) < (x0.length : Int) then (if (rd x0 (rd x1 x7)) = 0 then (some (([] : List Int))) else (if (rd x1 x7) < (x5.length : Int) then (if x6.length < 8796093022208 then (spec_CodeText.l0 k x0 x1 x5 (x6 ++ [(⟨(rd_T124 x5 (rd x1 x7)).f0, (rd_T124 x5 (rd x1 x7)).f1⟩ : S124)]) (wrap64 (x7 + 1))) else (none)) else (none))) else (none)) else (none)) else (some (([] : List Int))))) else (none)) else ((spec_PackBits.f k x6).bind fun t906 => (some t906))
end
def spec_CodeText.f (k : Nat) (l0 : List Int) (l1 : List Int) : Option (List Int) := (spec_CodesOf.f k l0).bind fun t884 => ((some (([] : List (S124)) : List (S124))).bind fun y887 => (if (t884.length : Int) = 0 then (spec_CodeText.j0 k l0 l1 t884 y887 true) else (spec_CodeText.j0 k l0 l1 t884 y887 (decide ((l1.length : Int) > 60000)))))
set_option maxHeartbeats 8000000 in
set_option maxRecDepth 100000 in
theorem spec_CodeText.calls (k : Nat) (A0 : Option Addr) (c0 : Nat) (l0 : List Int) (A1 : Option Addr) (c1 : Nat) (l1 : List Int) (r : List Int) (w : World) (hr0 : Kd.C (Kd.int .i64) w A0 l0.length l0) (hc0 : l0.length ≤ c0) (hr1 : Kd.C (Kd.int .i64) w A1 l1.length l1) (hc1 : l1.length ≤ c1) (h : spec_CodeText.f k l0 l1 = some r) :
  Calls Try.prog 50 #[.slice A0 l0.length c0, .slice A1 l1.length c1] w fun e w' => ∃ v0_ : Value, e = .returned (v0_) ∧ Kd.R (Kd.int .u8) 5 w' w.heap.size (fun _ => True) v0_ r ∧ Below w.heap.size w w' := by
 have hu124 := Try.underlying124
 have HR0 := Aside0.mk hr0
 have HC0 := Aside0.mk hc0
 clear hr0 hc0
 have HR1 := Aside0.mk hr1
 have HC1 := Aside0.mk hc1
 clear hr1 hc1
 have HB := Aside0.mk (Below.refl w.heap.size w)
 have H : ((spec_CodesOf.f k l0).bind fun t884 => ((some (([] : List (S124)) : List (S124))).bind fun y887 => (if (t884.length : Int) = 0 then (spec_CodeText.j0 k l0 l1 t884 y887 true) else (spec_CodeText.j0 k l0 l1 t884 y887 (decide ((l1.length : Int) > 60000)))))) = some r := h
 clear h
 replace H := Option.bind_eq_some_iff.mp H
 obtain ⟨t884, A30, H⟩ := H
 replace H : ((some (([] : List (S124)) : List (S124))).bind fun y887 => (if (t884.length : Int) = 0 then (spec_CodeText.j0 k l0 l1 t884 y887 true) else (spec_CodeText.j0 k l0 l1 t884 y887 (decide ((l1.length : Int) > 60000))))) = some r := H
 have A3 := Aside0.mk A30
 clear A30
 obtain ⟨y887, hy887⟩ : ∃ y_ : List (S124), y_ = (([] : List (S124))) := ⟨_, rfl⟩
 replace H : (if (t884.length : Int) = 0 then (spec_CodeText.j0 k l0 l1 t884 y887 true) else (spec_CodeText.j0 k l0 l1 t884 y887 (decide ((l1.length : Int) > 60000)))) = some r := by first | (rw [hy887]; with_reducible exact H) | (have H2_ := (Option.bind_some _ _).symm.trans H; rw [hy887]; with_reducible exact H2_) | (have H2_ := (Option.bind_some _ _).symm.trans H; with_reducible exact H2_) | with_reducible exact H | (rw [hy887]; exact H) | exact H
 have Ny887 := Aside0.mk hy887
 clear hy887
 have HC4 := Aside0.mk H
 clear H
 go_enter Try.func50, Try.ntmps50
 go_upto_region 3 with (first | ((with_reducible refine gate_callee (f := 77) rfl ?_); refine goesL_ (some 10) rfl rfl Try.func77 (by kernel_rfl) rfl #[.slice A0 l0.length c0] rfl (by (try simp only [List.map_toArray, List.map_cons, List.map_nil]); first | done | rfl | (simp only [List.length_drop, List.length_take]; rfl)) ?_; (with_reducible refine (spec_CodesOf.calls k _ _ l0 t884 _ ?side1 ?side2 A3.out).mono ?_); (case side1 => repeat (first | exact HR0.out | (with_reducible refine Kd.C_alloc ?_ _) | (with_reducible refine Kd.C_drewN ?_ _) | (with_reducible refine Kd.C_drew ?_))); (case side2 => exact HC0.out); rintro e w5 ⟨v885, rfl, ho0, hb⟩; refine ⟨_, rfl, ?_⟩; have n0_ := Aside0.mk (Kd.R_lower ho0 (below_size (by repeat (first | (with_reducible first | exact HB.out | apply below_alloc | apply pw_below_drewN | apply below_drew1) | exact HB.out)))); have n1_ := Aside0.mk (below_step (by repeat (first | (with_reducible first | exact HB.out | apply below_alloc | apply pw_below_drewN | apply below_drew1) | exact HB.out)) hb); clear HB; have HO886 := n0_; have HB := n1_; clear n0_ n1_; (try clear hb); (try clear hb2); (try clear hk); (try clear hi); (try clear ho0)) | ((with_reducible refine gate_dst (N := 11) rfl ?_); (try (refine gate_guard (by rfl) ?_; dsimp only)); refine Kd.R_lit k124 _ 124 ?hg (N := 11) ?hd (xs := ([] : List (S124))) (inner := []) (ok := fun _ => True) (okp := fun _ => True) ?hr ?hp (fun _ hk => hk) trivial (Below.refl _ _) (Nat.le_refl _) (by simp) ?_; (case hd => rfl); (case hg => rfl); (case hr => first | (go_simp; done) | (go_simp; rfl)); (case hp => exact (Reps.none _ _)); intro v888 w6 ho7 hb hg_ hnew_; clear hg_ hnew_; (first | rw [← Ny887.out] at ho7 | (simp only [Int.reduceToNat] at ho7; rw [← Ny887.out] at ho7)); have n0_ := Aside0.mk (Kd.R_elder' (by (with_reducible repeat (first | apply Kd.R_alloc | apply Kd.R_drewN | apply Kd.R_drew)); exact HO886.out) (Kd.R_base ho7) hb); have n1_ := Aside0.mk (Kd.R_lower (Kd.R_new' ho7 (Kd.R_lt (by (with_reducible repeat (first | apply Kd.R_alloc | apply Kd.R_drewN | apply Kd.R_drew)); exact HO886.out))) (below_size (by repeat (first | (with_reducible first | exact HB.out | apply below_alloc | apply pw_below_drewN | apply below_drew1) | exact HB.out)))); have n2_ := Aside0.mk (below_step (by repeat (first | (with_reducible first | exact HB.out | apply below_alloc | apply pw_below_drewN | apply below_drew1) | exact HB.out)) hb); clear HO886; clear HB; have HO886 := n0_; have HO889 := n1_; have HB := n2_; clear n0_ n1_ n2_; clear hb ho7))
 (try simp only [Act.put, List.setIfInBounds_toArray, List.set_cons_zero, List.set_cons_succ])
 go_cut [19] (fun v19 wc => ∃ (kq : Nat) (x19_3 : Bool), v19 = .bool x19_3 ∧ Aside0 (spec_CodeText.j0 kq l0 l1 t884 y887 x19_3 = some r) ∧ Aside0 (kq ≤ k) ∧ Aside0 (Kd.R k124 124 wc w.heap.size (fun k_ => some k_ ≠ (v888 : Value).ownBlock) v885 t884) ∧ Aside0 (Kd.R k124 124 wc w.heap.size (fun k_ => some k_ ≠ (v885 : Value).ownBlock) v888 y887) ∧ Aside0 (Below w.heap.size w wc))
 case first =>
  have H := HC4.out
  clear HC4
  by_cases c8 : (t884.length : Int) = 0
  ·rw [if_pos c8] at H
   have c8b0 : ((t884.length : Int) == 0) = true := beq_iff_eq.mpr c8
   have c8b1 : ((t884.length : Int) != 0) = false := bne_eq_false_iff_eq.mpr c8
   clear c8
   (first | rw [c8b0] | (simp only [i64_w, i32_w]; rw [c8b0]) | skip)
   have H' := Aside0.mk H
   clear H
   obtain ⟨Ao9, co9, eo9⟩ := Kd.R_slice HO886.out
   subst eo9
   go_wp2
   go_meet
   case rel => exact ⟨_, (true), (by first | rfl | (simp; done) | (simp [*]; done)), H', ⟨by first | omega | exact Nat.le_refl _⟩, ⟨by (with_reducible repeat (first | apply Kd.R_alloc | apply Kd.R_drewN | apply Kd.R_drew)); exact Kd.R_mono HO886.out (fun _ hk => hk.2)⟩, ⟨by (with_reducible repeat (first | apply Kd.R_alloc | apply Kd.R_drewN | apply Kd.R_drew)); exact Kd.R_mono HO889.out (fun _ hk => hk.2)⟩, ⟨by repeat (first | (with_reducible first | exact HB.out | apply below_alloc | apply pw_below_drewN | apply below_drew1) | exact HB.out)⟩⟩
  ·rw [if_neg c8] at H
   have c8b0 : ((t884.length : Int) == 0) = false := beq_eq_false_iff_ne.mpr c8
   have c8b1 : ((t884.length : Int) != 0) = true := bne_iff_ne.mpr c8
   have c8b2 : ¬ (t884 = []) := fun h_ => c8 (by rw [h_]; rfl)
   (first | rw [c8b0] | (simp only [i64_w, i32_w]; rw [c8b0]) | skip)
   have H' := Aside0.mk H
   clear H
   obtain ⟨Ao10, co10, eo10⟩ := Kd.R_slice HO886.out
   subst eo10
   go_wp2
   go_meet
   case rel => exact ⟨_, (decide ((l1.length : Int) > 60000)), (by first | rfl | (simp; done) | (simp [*]; done)), H', ⟨by first | omega | exact Nat.le_refl _⟩, ⟨by (with_reducible repeat (first | apply Kd.R_alloc | apply Kd.R_drewN | apply Kd.R_drew)); exact Kd.R_mono HO886.out (fun _ hk => hk.2)⟩, ⟨by (with_reducible repeat (first | apply Kd.R_alloc | apply Kd.R_drewN | apply Kd.R_drew)); exact Kd.R_mono HO889.out (fun _ hk => hk.2)⟩, ⟨by repeat (first | (with_reducible first | exact HB.out | apply below_alloc | apply pw_below_drewN | apply below_drew1) | exact HB.out)⟩⟩
 case rest =>
  clear HC4
  try clear c1
  try clear p2
  try clear c5
  try clear c7
  try clear c8
  try clear c8b0
  try clear c8b1
  try clear c8b2
  obtain ⟨kq, x19_3, rfl, HA, HJ3, HO_5, HO_6, HB⟩ := hcut
  cases kq with
  | zero => exact absurd HA.out (by simp [spec_CodeText.j0])
  | succ kj3 =>
   have H := HA.out
   clear HA
   simp only [spec_CodeText.j0] at H
   by_cases c11 : x19_3 = true
   ·subst c11
    have H1 : (some (([] : List Int))) = some r := by rw [if_pos rfl] at H; exact H
    clear H
    have H := H1
    clear H1
    obtain ⟨y890, hy890⟩ : ∃ y_ : List Int, y_ = (([] : List Int)) := ⟨_, rfl⟩
    replace H : (some y890) = some r := by first | (rw [hy890]; with_reducible exact H) | (have H2_ := (Option.bind_some _ _).symm.trans H; rw [hy890]; with_reducible exact H2_) | (have H2_ := (Option.bind_some _ _).symm.trans H; with_reducible exact H2_) | with_reducible exact H | (rw [hy890]; exact H) | exact H
    have Ny890 := Aside0.mk hy890
    clear hy890
    obtain rfl := Option.some.inj H
    go_wp2_with (first | ((with_reducible refine gate_dst (N := 20) rfl ?_); (try (refine gate_guard (by rfl) ?_; dsimp only)); refine Kd.R_lit (Kd.int .u8) _ 5 ?hg (N := 20) ?hd (xs := ([] : List Int)) (inner := []) (ok := fun _ => True) (okp := fun _ => True) ?hr ?hp (fun _ hk => hk) trivial (Below.refl _ _) (Nat.le_refl _) (by simp) ?_; (case hd => rfl); (case hg => rfl); (case hr => first | (go_simp; done) | (go_simp; rfl)); (case hp => exact (Reps.none _ _)); intro v891 w12 ho13 hb hg_ hnew_; clear hg_ hnew_; (first | rw [← Ny890.out] at ho13 | (simp only [Int.reduceToNat] at ho13; rw [← Ny890.out] at ho13)); have n0_ := Aside0.mk (Kd.R_below (by (with_reducible repeat (first | apply Kd.R_alloc | apply Kd.R_drewN | apply Kd.R_drew)); exact HO_5.out) hb); have n1_ := Aside0.mk (Kd.R_below (by (with_reducible repeat (first | apply Kd.R_alloc | apply Kd.R_drewN | apply Kd.R_drew)); exact HO_6.out) hb); have n2_ := Aside0.mk (Kd.R_lower ho13 (below_size (by repeat (first | (with_reducible first | exact HB.out | apply below_alloc | apply pw_below_drewN | apply below_drew1) | exact HB.out)))); have n3_ := Aside0.mk (below_step (by repeat (first | (with_reducible first | exact HB.out | apply below_alloc | apply pw_below_drewN | apply below_drew1) | exact HB.out)) hb); clear HO_5; clear HO_6; clear HB; have HO_5 := n0_; have HO_6 := n1_; have HO892 := n2_; have HB := n3_; clear n0_ n1_ n2_ n3_; clear hb ho13))
    go_ret
    exact ⟨_, by first | rfl | (simp [errW_none, errW_some] <;> rfl) | (simp [*, errW_none, errW_some] <;> rfl), by (with_reducible repeat (first | apply Kd.R_alloc | apply Kd.R_drewN | apply Kd.R_drew)); exact HO892.out, by repeat (first | (with_reducible first | exact HB.out | apply below_alloc | apply pw_below_drewN | apply below_drew1) | exact HB.out)⟩
   ·replace c11 := Bool.eq_false_iff.mpr c11
    subst c11
    have H1 : (spec_CodeText.l0 kj3 l0 l1 t884 y887 0) = some r := by rw [if_neg (show ¬ (false = true) by decide)] at H; exact H
    clear H
    have H := H1
    clear H1
    have H' := Aside0.mk H
    clear H
    go_wp2
    go_loopg [6, 7] kj3 (fun kq v6 v7 w' => ∃ (x6_2 : List (S124)) (x7_2 : Int), v7 = .int .i64 x7_2 ∧ Aside0 (spec_CodeText.l0 kq l0 l1 t884 x6_2 x7_2 = some r) ∧ Aside0 (kq ≤ kj3) ∧ Aside0 (Kd.R k124 124 w' w.heap.size (fun k_ => some k_ ≠ (v6 : Value).ownBlock) v885 t884) ∧ Aside0 (Kd.R k124 124 w' w.heap.size (fun k_ => some k_ ≠ (v885 : Value).ownBlock) v6 x6_2) ∧ Aside0 (Below w.heap.size w w'))
    case atStart => exact ⟨(y887), (0), (by first | rfl | (simp; done) | (simp [*]; done)), H', ⟨Nat.le_refl _⟩, ⟨by (with_reducible repeat (first | apply Kd.R_alloc | apply Kd.R_drewN | apply Kd.R_drew)); exact HO_5.out⟩, ⟨by (with_reducible repeat (first | apply Kd.R_alloc | apply Kd.R_drewN | apply Kd.R_drew)); exact HO_6.out⟩, ⟨by repeat (first | (with_reducible first | exact HB.out | apply below_alloc | apply pw_below_drewN | apply below_drew1) | exact HB.out)⟩⟩
    case round =>
     clear H'
     try clear c1
     try clear p2
     try clear c5
     try clear c7
     try clear c8
     try clear c8b0
     try clear c8b1
     try clear c8b2
     try clear c11
     try clear p2
     obtain ⟨x6_2, x7_2, rfl, HA, HK2, HO_5, HO_6, HB⟩ := hrel
     cases gk with
     | zero => exact absurd HA.out (by simp [spec_CodeText.l0])
     | succ k2 =>
      have H := HA.out
      clear HA
      simp only [spec_CodeText.l0] at H
      by_cases c14 : x7_2 < (l1.length : Int)
      ·rw [if_pos c14] at H
       have c14b0 : decide (x7_2 < (l1.length : Int)) = true := decide_eq_true c14
       clear c14
       by_cases c15 : 0 ≤ x7_2
       ·rw [if_pos c15] at H
        have c15b0 : decide (0 ≤ x7_2) = true := decide_eq_true c15
        clear c15
        replace H := Option.bind_eq_some_iff.mp H
        obtain ⟨t894, A160, H⟩ := H
        replace H : (if t894 = true then (if 0 ≤ (rd l1 x7_2) then (if (rd l1 x7_2) < (l0.length : Int) then (if (rd l0 (rd l1 x7_2)) = 0 then (some (([] : List Int))) else (if (rd l1 x7_2) < (t884.length : Int) then (if x6_2.length < 8796093022208 then (spec_CodeText.l0 k2 l0 l1 t884 (x6_2 ++ [(⟨(rd_T124 t884 (rd l1 x7_2)).f0, (rd_T124 t884 (rd l1 x7_2)).f1⟩ : S124)]) (wrap64 (x7_2 + 1))) else (none)) else (none))) else (none)) else (none)) else (some (([] : List Int)))) = some r := H
        have A16 := Aside0.mk A160
        clear A160
        by_cases c17 : t894 = true
        ·subst c17
         have H1 : (if 0 ≤ (rd l1 x7_2) then (if (rd l1 x7_2) < (l0.length : Int) then (if (rd l0 (rd l1 x7_2)) = 0 then (some (([] : List Int))) else (if (rd l1 x7_2) < (t884.length : Int) then (if x6_2.length < 8796093022208 then (spec_CodeText.l0 k2 l0 l1 t884 (x6_2 ++ [(⟨(rd_T124 t884 (rd l1 x7_2)).f0, (rd_T124 t884 (rd l1 x7_2)).f1⟩ : S124)]) (wrap64 (x7_2 + 1))) else (none)) else (none))) else (none)) else (none)) = some r := by rw [if_pos rfl] at H; exact H
         clear H
         have H := H1
         clear H1
         by_cases c18 : 0 ≤ (rd l1 x7_2)
         ·rw [if_pos c18] at H
          have c18b0 : decide (0 ≤ (rd l1 x7_2)) = true := decide_eq_true c18
          clear c18
          by_cases c19 : (rd l1 x7_2) < (l0.length : Int)
          ·rw [if_pos c19] at H
           have c19b0 : decide ((rd l1 x7_2) < (l0.length : Int)) = true := decide_eq_true c19
           clear c19
           by_cases c20 : (rd l0 (rd l1 x7_2)) = 0
           ·rw [if_pos c20] at H
            have c20b0 : ((rd l0 (rd l1 x7_2)) == 0) = true := beq_iff_eq.mpr c20
            have c20b1 : ((rd l0 (rd l1 x7_2)) != 0) = false := bne_eq_false_iff_eq.mpr c20
            clear c20
            obtain ⟨y896, hy896⟩ : ∃ y_ : List Int, y_ = (([] : List Int)) := ⟨_, rfl⟩
            replace H : (some y896) = some r := by first | (rw [hy896]; with_reducible exact H) | (have H2_ := (Option.bind_some _ _).symm.trans H; rw [hy896]; with_reducible exact H2_) | (have H2_ := (Option.bind_some _ _).symm.trans H; with_reducible exact H2_) | with_reducible exact H | (rw [hy896]; exact H) | exact H
            have Ny896 := Aside0.mk hy896
            clear hy896
            obtain rfl := Option.some.inj H
            have p893 : 0 ≤ (x7_2 : Int) := of_decide_eq_true (by first | (with_reducible assumption) | assumption)
            have q893 : x7_2 < (l1.length : Int) := of_decide_eq_true (by first | (with_reducible assumption) | assumption)
            obtain ⟨ad893, e893, hx893_0⟩ := Kd.at_int HR1.out x7_2 p893 q893
            cases e893
            replace hx893_0 := (HB.out.cell (World.block_lt_of_cell? w _ hx893_0)).trans hx893_0
            replace p893 := eq_true p893
            replace q893 := eq_true q893
            go_wp2_with (first | ((with_reducible refine gate_callee (f := 78) rfl ?_); refine goesL_ (some 35) rfl rfl Try.func78 (by kernel_rfl) rfl #[.int .i64 (rd l1 x7_2), .int .i64 0, .int .i64 (wrap64 ((l0.length : Int) - 1))] rfl (by (try simp only [List.map_toArray, List.map_cons, List.map_nil]); first | done | rfl | (simp only [List.length_drop, List.length_take]; rfl)) ?_; (with_reducible refine (spec_l01Between.calls (rd l1 x7_2) 0 (wrap64 ((l0.length : Int) - 1)) true _ A16.out).mono ?_); rintro e w' ⟨rfl, ⟨nd, rfl⟩⟩; refine ⟨_, rfl, ?_⟩; have p895 : 0 ≤ ((rd l1 x7_2) : Int) := of_decide_eq_true (by first | (with_reducible assumption) | assumption); have q895 : (rd l1 x7_2) < (l0.length : Int) := of_decide_eq_true (by first | (with_reducible assumption) | assumption); obtain ⟨ad895, e895, hx895_0⟩ := Kd.at_int HR0.out (rd l1 x7_2) p895 q895; cases e895; replace hx895_0 := (HB.out.cell (World.block_lt_of_cell? w _ hx895_0)).trans hx895_0; replace p895 := eq_true p895; replace q895 := eq_true q895) | ((with_reducible refine gate_dst (N := 44) rfl ?_); (try (refine gate_guard (by rfl) ?_; dsimp only)); refine Kd.R_lit (Kd.int .u8) _ 5 ?hg (N := 44) ?hd (xs := ([] : List Int)) (inner := []) (ok := fun _ => True) (okp := fun _ => True) ?hr ?hp (fun _ hk => hk) trivial (Below.refl _ _) (Nat.le_refl _) (by simp) ?_; (case hd => rfl); (case hg => rfl); (case hr => first | (go_simp; done) | (go_simp; rfl)); (case hp => exact (Reps.none _ _)); intro v897 w21 ho22 hb hg_ hnew_; clear hg_ hnew_; (first | rw [← Ny896.out] at ho22 | (simp only [Int.reduceToNat] at ho22; rw [← Ny896.out] at ho22)); have n0_ := Aside0.mk (Kd.R_below (by (with_reducible repeat (first | apply Kd.R_alloc | apply Kd.R_drewN | apply Kd.R_drew)); exact HO_5.out) hb); have n1_ := Aside0.mk (Kd.R_below (by (with_reducible repeat (first | apply Kd.R_alloc | apply Kd.R_drewN | apply Kd.R_drew)); exact HO_6.out) hb); have n2_ := Aside0.mk (Kd.R_lower ho22 (below_size (by repeat (first | (with_reducible first | exact HB.out | apply below_alloc | apply pw_below_drewN | apply below_drew1) | exact HB.out)))); have n3_ := Aside0.mk (below_step (by repeat (first | (with_reducible first | exact HB.out | apply below_alloc | apply pw_below_drewN | apply below_drew1) | exact HB.out)) hb); clear HO_5; clear HO_6; clear HB; have HO_5 := n0_; have HO_6 := n1_; have HO898 := n2_; have HB := n3_; clear n0_ n1_ n2_ n3_; clear hb ho22))
            go_ret
            exact ⟨_, by first | rfl | (simp [errW_none, errW_some] <;> rfl) | (simp [*, errW_none, errW_some] <;> rfl), by (with_reducible repeat (first | apply Kd.R_alloc | apply Kd.R_drewN | apply Kd.R_drew)); exact HO898.out, by repeat (first | (with_reducible first | exact HB.out | apply below_alloc | apply pw_below_drewN | apply below_drew1) | exact HB.out)⟩
           ·rw [if_neg c20] at H
            have c20b0 : ((rd l0 (rd l1 x7_2)) == 0) = false := beq_eq_false_iff_ne.mpr c20
            have c20b1 : ((rd l0 (rd l1 x7_2)) != 0) = true := bne_iff_ne.mpr c20
            by_cases c23 : (rd l1 x7_2) < (t884.length : Int)
            ·rw [if_pos c23] at H
             have c23b0 : decide ((rd l1 x7_2) < (t884.length : Int)) = true := decide_eq_true c23
             clear c23
             by_cases c24 : x6_2.length < 8796093022208
             ·rw [if_pos c24] at H
              have LMc24 := Aside0.mk c24
              clear c24
              obtain ⟨y900, hy900⟩ : ∃ y_ : List (S124), y_ = (x6_2 ++ [(⟨(rd_T124 t884 (rd l1 x7_2)).f0, (rd_T124 t884 (rd l1 x7_2)).f1⟩ : S124)]) := ⟨_, rfl⟩
              replace H : (spec_CodeText.l0 k2 l0 l1 t884 y900 (wrap64 (x7_2 + 1))) = some r := by first | (rw [hy900]; with_reducible exact H) | (have H2_ := (Option.bind_some _ _).symm.trans H; rw [hy900]; with_reducible exact H2_) | (have H2_ := (Option.bind_some _ _).symm.trans H; with_reducible exact H2_) | with_reducible exact H | (rw [hy900]; exact H) | exact H
              have Ny900 := Aside0.mk hy900
              clear hy900
              have H' := Aside0.mk H
              clear H
              have p893 : 0 ≤ (x7_2 : Int) := of_decide_eq_true (by first | (with_reducible assumption) | assumption)
              have q893 : x7_2 < (l1.length : Int) := of_decide_eq_true (by first | (with_reducible assumption) | assumption)
              obtain ⟨ad893, e893, hx893_0⟩ := Kd.at_int HR1.out x7_2 p893 q893
              cases e893
              replace hx893_0 := (HB.out.cell (World.block_lt_of_cell? w _ hx893_0)).trans hx893_0
              replace p893 := eq_true p893
              replace q893 := eq_true q893
              go_wp2_with (first | ((with_reducible refine gate_callee (f := 78) rfl ?_); refine goesL_ (some 35) rfl rfl Try.func78 (by kernel_rfl) rfl #[.int .i64 (rd l1 x7_2), .int .i64 0, .int .i64 (wrap64 ((l0.length : Int) - 1))] rfl (by (try simp only [List.map_toArray, List.map_cons, List.map_nil]); first | done | rfl | (simp only [List.length_drop, List.length_take]; rfl)) ?_; (with_reducible refine (spec_l01Between.calls (rd l1 x7_2) 0 (wrap64 ((l0.length : Int) - 1)) true _ A16.out).mono ?_); rintro e w' ⟨rfl, ⟨nd, rfl⟩⟩; refine ⟨_, rfl, ?_⟩; have p895 : 0 ≤ ((rd l1 x7_2) : Int) := of_decide_eq_true (by first | (with_reducible assumption) | assumption); have q895 : (rd l1 x7_2) < (l0.length : Int) := of_decide_eq_true (by first | (with_reducible assumption) | assumption); obtain ⟨ad895, e895, hx895_0⟩ := Kd.at_int HR0.out (rd l1 x7_2) p895 q895; cases e895; replace hx895_0 := (HB.out.cell (World.block_lt_of_cell? w _ hx895_0)).trans hx895_0; replace p895 := eq_true p895; replace q895 := eq_true q895; obtain ⟨Ao25, co25, eo25⟩ := Kd.R_slice HO_5.out; subst eo25; have p899 : 0 ≤ ((rd l1 x7_2) : Int) := of_decide_eq_true (by first | (with_reducible assumption) | assumption); have q899 : (rd l1 x7_2) < (t884.length : Int) := of_decide_eq_true (by first | (with_reducible assumption) | assumption); obtain ⟨ad899, e899, hx899_0, hx899_1⟩ := at_T124 (Kd.R_reads' HO_5.out).2.2 (rd l1 x7_2) p899 q899; cases e899; replace p899 := eq_true p899; replace q899 := eq_true q899) | ((with_reducible refine gate_builtin (b := .append) (xs := #[.tmp 45, .tmp 50]) rfl ?_); (try (refine gate_guard (by rfl) ?_; dsimp only)); at_builtin; refine Kd.R_append k124 (w0 := w) w.heap.size rfl (.tmp 45) (.tmp 50) 87 124 (.agg #[(.int .i64 0), (.int .i64 0)]) 16 rfl Try.underlying87 info124 rfl (by decide) (by omega) u6 x6_2 (⟨(rd_T124 t884 (rd l1 x7_2)).f0, (rd_T124 t884 (rd l1 x7_2)).f1⟩ : S124) [.int .i64 ((rd_T124 t884 (rd l1 x7_2)).f0), .int .i64 ((rd_T124 t884 (rd l1 x7_2)).f1)] (fun k_ => some k_ ≠ (.slice (some ad899) t884.length co25 : Value).ownBlock) (fun _ => False) rfl rfl ?aP (fun _ hk => hk.elim) ?aF ?aO ?aB ?aS ?aL ?_; (case aP => exact k124_mkM _ _ _ (⟨(rd_T124 t884 (rd l1 x7_2)).f0, (rd_T124 t884 (rd l1 x7_2)).f1⟩ : S124)); (case aB => exact (by repeat (first | (with_reducible first | exact HB.out | apply below_alloc | apply pw_below_drewN | apply below_drew1) | exact HB.out))); (case aF => exact (fun k_ hk => Kd.fresh' (Kd.R_lt (by (with_reducible repeat (first | apply Kd.R_alloc | apply Kd.R_drewN | apply Kd.R_drew)); exact HO_5.out)) k_ hk)); (case aO => exact (by (with_reducible repeat (first | apply Kd.R_alloc | apply Kd.R_drewN | apply Kd.R_drew)); exact HO_6.out)); (case aS => exact (below_size (by repeat (first | (with_reducible first | exact HB.out | apply below_alloc | apply pw_below_drewN | apply below_drew1) | exact HB.out)))); (case aL => have := LMc24.out; omega); intro v901 w26 ho hb hg hat; rw [← Ny900.out] at ho; have n0_ := Aside0.mk (Kd.R_after (ok := (fun _ => True)) (by (with_reducible repeat (first | apply Kd.R_alloc | apply Kd.R_drewN | apply Kd.R_drew)); exact Kd.R_mono HO_5.out (fun _ hk => ⟨trivial, hk⟩)) hg hat); have n1_ := Aside0.mk (hb); have n2_ := Aside0.mk (ho); clear HO_5; clear HB; clear HO_6; have HO_5 := n0_; have HB := n1_; have HO902 := n2_; clear n0_ n1_ n2_; clear ho hb hg hat))
              go_roundg k2
              case measure => have := HJ3.out; have := HK2.out; omega
              case rel => exact ⟨(y900), (wrap64 (x7_2 + 1)), (by first | rfl | (simp; done) | (simp [*]; done)), H', ⟨by have := HJ3.out; have := HK2.out; omega⟩, ⟨by (with_reducible repeat (first | apply Kd.R_alloc | apply Kd.R_drewN | apply Kd.R_drew)); exact Kd.R_mono HO_5.out (fun _ hk => hk.2)⟩, ⟨by (with_reducible repeat (first | apply Kd.R_alloc | apply Kd.R_drewN | apply Kd.R_drew)); exact HO902.out⟩, ⟨by repeat (first | (with_reducible first | exact HB.out | apply below_alloc | apply pw_below_drewN | apply below_drew1) | exact HB.out)⟩⟩
             ·rw [if_neg c24] at H
              exact absurd H (by simp)
            ·rw [if_neg c23] at H
             exact absurd H (by simp)
          ·rw [if_neg c19] at H
           exact absurd H (by simp)
         ·rw [if_neg c18] at H
          exact absurd H (by simp)
        ·replace c17 := Bool.eq_false_iff.mpr c17
         subst c17
         have H1 : (some (([] : List Int))) = some r := by rw [if_neg (show ¬ (false = true) by decide)] at H; exact H
         clear H
         have H := H1
         clear H1
         obtain ⟨y903, hy903⟩ : ∃ y_ : List Int, y_ = (([] : List Int)) := ⟨_, rfl⟩
         replace H : (some y903) = some r := by first | (rw [hy903]; with_reducible exact H) | (have H2_ := (Option.bind_some _ _).symm.trans H; rw [hy903]; with_reducible exact H2_) | (have H2_ := (Option.bind_some _ _).symm.trans H; with_reducible exact H2_) | with_reducible exact H | (rw [hy903]; exact H) | exact H
         have Ny903 := Aside0.mk hy903
         clear hy903
         obtain rfl := Option.some.inj H
         have p893 : 0 ≤ (x7_2 : Int) := of_decide_eq_true (by first | (with_reducible assumption) | assumption)
         have q893 : x7_2 < (l1.length : Int) := of_decide_eq_true (by first | (with_reducible assumption) | assumption)
         obtain ⟨ad893, e893, hx893_0⟩ := Kd.at_int HR1.out x7_2 p893 q893
         cases e893
         replace hx893_0 := (HB.out.cell (World.block_lt_of_cell? w _ hx893_0)).trans hx893_0
         replace p893 := eq_true p893
         replace q893 := eq_true q893
         go_wp2_with (first | ((with_reducible refine gate_callee (f := 78) rfl ?_); refine goesL_ (some 35) rfl rfl Try.func78 (by kernel_rfl) rfl #[.int .i64 (rd l1 x7_2), .int .i64 0, .int .i64 (wrap64 ((l0.length : Int) - 1))] rfl (by (try simp only [List.map_toArray, List.map_cons, List.map_nil]); first | done | rfl | (simp only [List.length_drop, List.length_take]; rfl)) ?_; (with_reducible refine (spec_l01Between.calls (rd l1 x7_2) 0 (wrap64 ((l0.length : Int) - 1)) false _ A16.out).mono ?_); rintro e w' ⟨rfl, ⟨nd, rfl⟩⟩; refine ⟨_, rfl, ?_⟩) | ((with_reducible refine gate_dst (N := 44) rfl ?_); (try (refine gate_guard (by rfl) ?_; dsimp only)); refine Kd.R_lit (Kd.int .u8) _ 5 ?hg (N := 44) ?hd (xs := ([] : List Int)) (inner := []) (ok := fun _ => True) (okp := fun _ => True) ?hr ?hp (fun _ hk => hk) trivial (Below.refl _ _) (Nat.le_refl _) (by simp) ?_; (case hd => rfl); (case hg => rfl); (case hr => first | (go_simp; done) | (go_simp; rfl)); (case hp => exact (Reps.none _ _)); intro v904 w27 ho28 hb hg_ hnew_; clear hg_ hnew_; (first | rw [← Ny903.out] at ho28 | (simp only [Int.reduceToNat] at ho28; rw [← Ny903.out] at ho28)); have n0_ := Aside0.mk (Kd.R_below (by (with_reducible repeat (first | apply Kd.R_alloc | apply Kd.R_drewN | apply Kd.R_drew)); exact HO_5.out) hb); have n1_ := Aside0.mk (Kd.R_below (by (with_reducible repeat (first | apply Kd.R_alloc | apply Kd.R_drewN | apply Kd.R_drew)); exact HO_6.out) hb); have n2_ := Aside0.mk (Kd.R_lower ho28 (below_size (by repeat (first | (with_reducible first | exact HB.out | apply below_alloc | apply pw_below_drewN | apply below_drew1) | exact HB.out)))); have n3_ := Aside0.mk (below_step (by repeat (first | (with_reducible first | exact HB.out | apply below_alloc | apply pw_below_drewN | apply below_drew1) | exact HB.out)) hb); clear HO_5; clear HO_6; clear HB; have HO_5 := n0_; have HO_6 := n1_; have HO905 := n2_; have HB := n3_; clear n0_ n1_ n2_ n3_; clear hb ho28))
         go_ret
         exact ⟨_, by first | rfl | (simp [errW_none, errW_some] <;> rfl) | (simp [*, errW_none, errW_some] <;> rfl), by (with_reducible repeat (first | apply Kd.R_alloc | apply Kd.R_drewN | apply Kd.R_drew)); exact HO905.out, by repeat (first | (with_reducible first | exact HB.out | apply below_alloc | apply pw_below_drewN | apply below_drew1) | exact HB.out)⟩
       ·rw [if_neg c15] at H
        exact absurd H (by simp)
      ·rw [if_neg c14] at H
       have c14b0 : decide (x7_2 < (l1.length : Int)) = false := decide_eq_false c14
       clear c14
       replace H := Option.bind_eq_some_iff.mp H
       obtain ⟨t906, A290, H⟩ := H
       replace H : (some t906) = some r := H
       have A29 := Aside0.mk A290
       clear A290
       obtain rfl := Option.some.inj H
       obtain ⟨Ao30, co30, eo30⟩ := Kd.R_slice HO_6.out
       subst eo30
       go_wp2_with (first | ((with_reducible refine gate_callee (f := 122) rfl ?_); refine goesL_ (some 53) rfl rfl Try.func122 (by kernel_rfl) rfl #[.slice Ao30 x6_2.length co30] rfl (by (try simp only [List.map_toArray, List.map_cons, List.map_nil]); first | done | rfl | (simp only [List.length_drop, List.length_take]; rfl)) ?_; (with_reducible refine (spec_PackBits.calls k2 _ _ x6_2 t906 _ ?side1 ?side2 A29.out).mono ?_); (case side1 => repeat (first | exact (Kd.R_reads' HO_6.out).2.2 | (with_reducible refine Kd.C_alloc ?_ _) | (with_reducible refine Kd.C_drewN ?_ _) | (with_reducible refine Kd.C_drew ?_))); (case side2 => exact (Kd.R_reads' HO_6.out).2.1); rintro e w31 ⟨v907, rfl, ho0, hb⟩; refine ⟨_, rfl, ?_⟩; have n0_ := Aside0.mk (Kd.R_below (by (with_reducible repeat (first | apply Kd.R_alloc | apply Kd.R_drewN | apply Kd.R_drew)); exact HO_5.out) hb); have n1_ := Aside0.mk (Kd.R_below (by (with_reducible repeat (first | apply Kd.R_alloc | apply Kd.R_drewN | apply Kd.R_drew)); exact HO_6.out) hb); have n2_ := Aside0.mk (Kd.R_lower ho0 (below_size (by repeat (first | (with_reducible first | exact HB.out | apply below_alloc | apply pw_below_drewN | apply below_drew1) | exact HB.out)))); have n3_ := Aside0.mk (below_step (by repeat (first | (with_reducible first | exact HB.out | apply below_alloc | apply pw_below_drewN | apply below_drew1) | exact HB.out)) hb); clear HO_5; clear HO_6; clear HB; have HO_5 := n0_; have HO_6 := n1_; have HO908 := n2_; have HB := n3_; clear n0_ n1_ n2_ n3_; (try clear hb); (try clear hb2); (try clear hk); (try clear hi); (try clear ho0)))
       go_ret
       exact ⟨_, by first | rfl | (simp [errW_none, errW_some] <;> rfl) | (simp [*, errW_none, errW_some] <;> rfl), by (with_reducible repeat (first | apply Kd.R_alloc | apply Kd.R_drewN | apply Kd.R_drew)); exact HO908.out, by repeat (first | (with_reducible first | exact HB.out | apply below_alloc | apply pw_below_drewN | apply below_drew1) | exact HB.out)⟩
theorem codesM_f0 (lens : List Int) (h : lensOkM lens = true) (s : Int) (h0 : 0 ≤ s) (h1 : s < lens.length) : (rd_T124 (codesM lens) s).f0 = rd lens s := by
 obtain ⟨m, rfl⟩ : ∃ m : Nat, s = m := ⟨s.toNat, by omega⟩
 have hm : m < lens.length := by omega
 have hx := (lensOk_parts h).2.1 _ (List.getElem_mem hm)
 rw [← rd_nat lens m hm] at hx
 unfold rd_T124 codesM
 rw [if_pos h, Int.toNat_natCast, codesP_at lens 17 0 m hm]
 by_cases hc : 1 ≤ rd lens (m : Int)
 ·rw [if_pos ⟨hc, .inl (by omega)⟩]
 ·rw [if_neg (fun q => hc q.1)]
  show (0 : Int) = _
  omega
theorem spec_CodeText.ev (lens syms : List Int) (hl : syms.length ≤ 1048576) : Ev (fun k => spec_CodeText.f k lens syms) (codeTextC (codesM lens) syms) := by
 unfold spec_CodeText.f
 refine Ev.bind (spec_CodesOf.ev lens) (Ev.bind (Ev.c rfl) ?_)
 by_cases hz : ((codesM lens).length : Int) = 0
 ·refine Ev.ip hz (Ev.step (fun _ => by rw [spec_CodeText.j0]) (Ev.ip rfl (Ev.eq (Ev.now _) ?_)))
  rw [List.length_eq_zero_iff.1 (show (codesM lens).length = 0 by omega), codeTextC_none]
 ·refine Ev.ng hz (Ev.step (fun _ => by rw [spec_CodeText.j0]) ?_)
  have hok : lensOkM lens = true := by
   cases h : lensOkM lens
   ·exact absurd (show ((codesM lens).length : Int) = 0 by unfold codesM; rw [h]; rfl) hz
   ·rfl
  have hcl := (codesM_length lens hok).1
  have hsm := (lensOk_parts hok).1
  by_cases hlong : syms.length ≤ 60000
  ·refine Ev.ng (by simp; omega) ?_
   have key : ∀ d i : Nat, i + d = syms.length → (syms.take i).all (okS (codesM lens)) = true → Ev (fun k => spec_CodeText.l0 k lens syms (codesM lens) (fldsC (codesM lens) (syms.take i)) (i : Int)) (codeTextC (codesM lens) syms) := by
    intro d
    induction d with
    | zero =>
     intro i hi hall
     obtain rfl : i = syms.length := by omega
     rw [List.take_length] at hall ⊢
     have hfl : (fldsC (codesM lens) syms).length ≤ 60000 := by unfold fldsC; rw [List.length_map]; exact hlong
     exact Ev.step (fun _ => by rw [spec_CodeText.l0]) (Ev.ng (by omega) (Ev.bind (spec_PackBits.ev _ (by omega)) (Ev.eq (Ev.now _) (codeTextC_ok hlong hall).symm)))
    | succ d ih =>
     intro i hi hall
     have hlt : i < syms.length := by omega
     have er := rd_nat syms i hlt
     have hmem : syms[i] ∈ syms := List.getElem_mem hlt
     obtain ⟨s, hs⟩ : ∃ s, s = syms[i] := ⟨_, rfl⟩
     have htk : (fldsC (codesM lens) (syms.take (i + 1))) = fldsC (codesM lens) (syms.take i) ++ [rd_T124 (codesM lens) s] := by
      unfold fldsC; rw [List.take_succ_eq_append_getElem hlt, List.map_append, ← hs]; rfl
     have hall2 : (syms.take (i + 1)).all (okS (codesM lens)) = okS (codesM lens) s := by rw [List.take_succ_eq_append_getElem hlt, List.all_append, hall, ← hs]; simp
     rw [← hs] at er hmem
     have e1 : wrap64 ((lens.length : Int) - 1) = (lens.length : Int) - 1 := wrap_in _ (by omega) (by omega)
     refine Ev.step (fun _ => by rw [spec_CodeText.l0]) (Ev.ip (by omega) (Ev.ip (by omega) ?_))
     rw [er, e1]
     refine Ev.bind (Ev.c (spec_l01Between.val s 0 _)) ?_
     by_cases hr : 0 ≤ s ∧ s < lens.length
     ·refine Ev.ip (by simp; omega) (Ev.ip hr.1 (Ev.ip hr.2 ?_))
      have hf0 := codesM_f0 lens hok s hr.1 hr.2
      by_cases hz0 : rd lens s = 0
      ·refine Ev.ip hz0 (Ev.eq (Ev.now _) (codeTextC_bad hmem ?_).symm)
       unfold okS
       rw [hf0, hz0]
       simp
      ·refine Ev.ng hz0 (Ev.ip (by omega) (Ev.ip ?_ ?_))
       ·unfold fldsC; rw [List.length_map, List.length_take]; omega
       ·rw [wrap_succ i (by omega)]
        have hok2 : okS (codesM lens) s = true := by
         unfold okS
         rw [hf0, hcl]
         simp only [Bool.and_eq_true, decide_eq_true_eq]
         exact ⟨hr, hz0⟩
        have := ih (i + 1) (by omega) (by rw [hall2, hok2])
        rw [htk] at this
        exact this
     ·refine Ev.ng (by simp; omega) (Ev.eq (Ev.now _) (codeTextC_bad hmem ?_).symm)
      unfold okS
      rw [hcl]
      rw [Bool.and_eq_false_iff]
      left
      rw [Bool.and_eq_false_iff]
      rcases Decidable.not_and_iff_or_not.1 hr with h | h
      ·exact .inl (decide_eq_false h)
      ·exact .inr (decide_eq_false h)
   exact key syms.length 0 (by omega) (by simp)
  ·refine Ev.ip (by simp; omega) (Ev.eq (Ev.now _) (codeTextC_long hlong).symm)
end Go.Proofs.Ytcjjmfpkhhdmlaa.G


namespace Go.Proofs.Ytcjjmfpkhhdmlaa.G
open Go.RowKit Go.Proofs.YtcjjmfpkhhdmlaaW.PrintWords Go.Proofs.YtcjjmfpkhhdmlaaW.PrintLast Go.Proofs.YtcjjmfpkhhdmlaaW.PrintMore
attribute [local go_sem] max2_int min2_int max_two min_two max_three min_three max_four min_four   -- for this text's walks alone
def laws_FnCodesBack.l0 : Nat → List Int → List Int → List Int → Bool → Int → Option (Bool)
 | 0, _, _, _, _, _ => none
 | k + 1, x3, x4, x5, x6, x7 => if x7 < (x4.length : Int) then (if x6 = true then (if 0 ≤ x7 then (if (rd x4 x7) ≥ 0 then (if (rd x4 x7) < (x3.length : Int) then (if 0 ≤ (rd x4 x7) then (laws_FnCodesBack.l0 k x3 x4 x5 (decide ((rd x3 (rd x4 x7)) > 0)) (wrap64 (x7 + 1))) else (none)) else (laws_FnCodesBack.l0 k x3 x4 x5 false (wrap64 (x7 + 1)))) else (laws_FnCodesBack.l0 k x3 x4 x5 false (wrap64 (x7 + 1)))) else (none)) else (laws_FnCodesBack.l0 k x3 x4 x5 false (wrap64 (x7 + 1)))) else (if x6 = true then ((impl_CodeRead.f x3 x5 (x4.length : Int)).bind fun bt928 => (if bt928.2 = true then ((laws_sameInts.f k bt928.1 x4).bind fun t932 => (some t932)) else (some false))) else (some ((x5.length : Int) == 0)))
def laws_FnCodesBack.f (k : Nat) (l0 : List Int) : Option (Bool) := (laws_big.f l0).bind fun t909 => (if t909 = true then (some true) else ((spec_DrawCodeText.f k l0).bind fun bt910 => ((impl_CodeText.f bt910.1 bt910.2).bind fun t916 => ((spec_CodeText.f k bt910.1 bt910.2).bind fun t919 => ((laws_sameBytes.f k t916 t919).bind fun t922 => (if t922 = true then ((spec_LensOk.f k bt910.1).bind fun t923 => (laws_FnCodesBack.l0 k bt910.1 bt910.2 t916 t923 0)) else (some false)))))))
set_option maxHeartbeats 8000000 in
set_option maxRecDepth 100000 in
theorem laws_FnCodesBack.calls (k : Nat) (A0 : Option Addr) (c0 : Nat) (l0 : List Int) (r : Bool) (w : World) (hr0 : Kd.C (Kd.int .u8) w A0 l0.length l0) (hc0 : l0.length ≤ c0) (h : laws_FnCodesBack.f k l0 = some r) :
  Calls Try.prog 8 #[.slice A0 l0.length c0] w fun e w' => e = .returned (.bool r) ∧ Below w.heap.size w w' := by
 have HR0 := Aside0.mk hr0
 have HC0 := Aside0.mk hc0
 clear hr0 hc0
 have HB := Aside0.mk (Below.refl w.heap.size w)
 have H : ((laws_big.f l0).bind fun t909 => (if t909 = true then (some true) else ((spec_DrawCodeText.f k l0).bind fun bt910 => ((impl_CodeText.f bt910.1 bt910.2).bind fun t916 => ((spec_CodeText.f k bt910.1 bt910.2).bind fun t919 => ((laws_sameBytes.f k t916 t919).bind fun t922 => (if t922 = true then ((spec_LensOk.f k bt910.1).bind fun t923 => (laws_FnCodesBack.l0 k bt910.1 bt910.2 t916 t923 0)) else (some false)))))))) = some r := h
 clear h
 replace H := Option.bind_eq_some_iff.mp H
 obtain ⟨t909, A20, H⟩ := H
 replace H : (if t909 = true then (some true) else ((spec_DrawCodeText.f k l0).bind fun bt910 => ((impl_CodeText.f bt910.1 bt910.2).bind fun t916 => ((spec_CodeText.f k bt910.1 bt910.2).bind fun t919 => ((laws_sameBytes.f k t916 t919).bind fun t922 => (if t922 = true then ((spec_LensOk.f k bt910.1).bind fun t923 => (laws_FnCodesBack.l0 k bt910.1 bt910.2 t916 t923 0)) else (some false))))))) = some r := H
 have A2 := Aside0.mk A20
 clear A20
 by_cases c3 : t909 = true
 ·subst c3
  have H1 : (some true) = some r := by rw [if_pos rfl] at H; exact H
  clear H
  have H := H1
  clear H1
  obtain rfl := Option.some.inj H
  go_enter Try.func8, Try.ntmps8
  go_wp2_with (first | ((with_reducible refine gate_callee (f := 24) rfl ?_); refine goesL_ (some 11) rfl rfl Try.func24 (by kernel_rfl) rfl #[.slice A0 l0.length c0] rfl (by (try simp only [List.map_toArray, List.map_cons, List.map_nil]); first | done | rfl | (simp only [List.length_drop, List.length_take]; rfl)) ?_; (with_reducible refine (laws_big.calls _ _ l0 true _ ?side1 ?side2 A2.out).mono ?_); (case side1 => repeat (first | exact HR0.out | (with_reducible refine Kd.C_alloc ?_ _) | (with_reducible refine Kd.C_drewN ?_ _) | (with_reducible refine Kd.C_drew ?_))); (case side2 => exact HC0.out); rintro e w' ⟨rfl, ⟨nd, rfl⟩⟩; refine ⟨_, rfl, ?_⟩))
  go_ret
  exact ⟨by first | rfl | (simp [errW_none, errW_some] <;> rfl) | (simp [*, errW_none, errW_some] <;> rfl), by repeat (first | (with_reducible first | exact HB.out | apply below_alloc | apply pw_below_drewN | apply below_drew1) | exact HB.out)⟩
 ·replace c3 := Bool.eq_false_iff.mpr c3
  subst c3
  have H1 : ((spec_DrawCodeText.f k l0).bind fun bt910 => ((impl_CodeText.f bt910.1 bt910.2).bind fun t916 => ((spec_CodeText.f k bt910.1 bt910.2).bind fun t919 => ((laws_sameBytes.f k t916 t919).bind fun t922 => (if t922 = true then ((spec_LensOk.f k bt910.1).bind fun t923 => (laws_FnCodesBack.l0 k bt910.1 bt910.2 t916 t923 0)) else (some false)))))) = some r := by rw [if_neg (show ¬ (false = true) by decide)] at H; exact H
  clear H
  have H := H1
  clear H1
  replace H := Option.bind_eq_some_iff.mp H
  obtain ⟨⟨t910, t911⟩, A40, H⟩ := H
  replace H : ((impl_CodeText.f t910 t911).bind fun t916 => ((spec_CodeText.f k t910 t911).bind fun t919 => ((laws_sameBytes.f k t916 t919).bind fun t922 => (if t922 = true then ((spec_LensOk.f k t910).bind fun t923 => (laws_FnCodesBack.l0 k t910 t911 t916 t923 0)) else (some false))))) = some r := H
  have A4 := Aside0.mk A40
  clear A40
  replace H := Option.bind_eq_some_iff.mp H
  obtain ⟨t916, A50, H⟩ := H
  replace H : ((spec_CodeText.f k t910 t911).bind fun t919 => ((laws_sameBytes.f k t916 t919).bind fun t922 => (if t922 = true then ((spec_LensOk.f k t910).bind fun t923 => (laws_FnCodesBack.l0 k t910 t911 t916 t923 0)) else (some false)))) = some r := H
  have A5 := Aside0.mk A50
  clear A50
  replace H := Option.bind_eq_some_iff.mp H
  obtain ⟨t919, A60, H⟩ := H
  replace H : ((laws_sameBytes.f k t916 t919).bind fun t922 => (if t922 = true then ((spec_LensOk.f k t910).bind fun t923 => (laws_FnCodesBack.l0 k t910 t911 t916 t923 0)) else (some false))) = some r := H
  have A6 := Aside0.mk A60
  clear A60
  replace H := Option.bind_eq_some_iff.mp H
  obtain ⟨t922, A70, H⟩ := H
  replace H : (if t922 = true then ((spec_LensOk.f k t910).bind fun t923 => (laws_FnCodesBack.l0 k t910 t911 t916 t923 0)) else (some false)) = some r := H
  have A7 := Aside0.mk A70
  clear A70
  by_cases c8 : t922 = true
  ·subst c8
   have H1 : ((spec_LensOk.f k t910).bind fun t923 => (laws_FnCodesBack.l0 k t910 t911 t916 t923 0)) = some r := by rw [if_pos rfl] at H; exact H
   clear H
   have H := H1
   clear H1
   replace H := Option.bind_eq_some_iff.mp H
   obtain ⟨t923, A90, H⟩ := H
   replace H : (laws_FnCodesBack.l0 k t910 t911 t916 t923 0) = some r := H
   have A9 := Aside0.mk A90
   clear A90
   have H' := Aside0.mk H
   clear H
   go_enter Try.func8, Try.ntmps8
   go_wp2_with (first | ((with_reducible refine gate_callee (f := 24) rfl ?_); refine goesL_ (some 11) rfl rfl Try.func24 (by kernel_rfl) rfl #[.slice A0 l0.length c0] rfl (by (try simp only [List.map_toArray, List.map_cons, List.map_nil]); first | done | rfl | (simp only [List.length_drop, List.length_take]; rfl)) ?_; (with_reducible refine (laws_big.calls _ _ l0 false _ ?side1 ?side2 A2.out).mono ?_); (case side1 => repeat (first | exact HR0.out | (with_reducible refine Kd.C_alloc ?_ _) | (with_reducible refine Kd.C_drewN ?_ _) | (with_reducible refine Kd.C_drew ?_))); (case side2 => exact HC0.out); rintro e w' ⟨rfl, ⟨nd, rfl⟩⟩; refine ⟨_, rfl, ?_⟩) | ((with_reducible refine gate_callee (f := 47) rfl ?_); refine goesL_ (some 14) rfl rfl Try.func47 (by kernel_rfl) rfl #[.slice A0 l0.length c0] rfl (by (try simp only [List.map_toArray, List.map_cons, List.map_nil]); first | done | rfl | (simp only [List.length_drop, List.length_take]; rfl)) ?_; (with_reducible refine (spec_DrawCodeText.calls k _ _ l0 t910 t911 _ ?side1 ?side2 A4.out).mono ?_); (case side1 => repeat (first | exact HR0.out | (with_reducible refine Kd.C_alloc ?_ _) | (with_reducible refine Kd.C_drewN ?_ _) | (with_reducible refine Kd.C_drew ?_))); (case side2 => exact HC0.out); rintro e w10 ⟨v912, v914, rfl, ho0, ho1, hb⟩; refine ⟨_, rfl, ?_⟩; have n0_ := Aside0.mk (Kd.R_lower ho0 (below_size (by repeat (first | (with_reducible first | exact HB.out | apply below_alloc | apply pw_below_drewN | apply below_drew1) | exact HB.out)))); have n1_ := Aside0.mk (Kd.R_lower ho1 (below_size (by repeat (first | (with_reducible first | exact HB.out | apply below_alloc | apply pw_below_drewN | apply below_drew1) | exact HB.out)))); have n2_ := Aside0.mk (below_step (by repeat (first | (with_reducible first | exact HB.out | apply below_alloc | apply pw_below_drewN | apply below_drew1) | exact HB.out)) hb); clear HB; have HO913 := n0_; have HO915 := n1_; have HB := n2_; clear n0_ n1_ n2_; (try clear hb); (try clear hb2); (try clear hk); (try clear hi); (try clear ho0); (try clear ho1); obtain ⟨Ao11, co11, eo11⟩ := Kd.R_slice HO913.out; subst eo11; obtain ⟨Ao12, co12, eo12⟩ := Kd.R_slice HO915.out; subst eo12) | ((with_reducible refine gate_callee (f := 48) rfl ?_); refine goesL_ (some 19) rfl rfl Try.func48 (by kernel_rfl) rfl #[.slice Ao11 t910.length co11, .slice Ao12 t911.length co12] rfl (by (try simp only [List.map_toArray, List.map_cons, List.map_nil]); first | done | rfl | (simp only [List.length_drop, List.length_take]; rfl)) ?_; (with_reducible refine (impl_CodeText.calls _ _ t910 _ _ t911 t916 _ ?side1 ?side2 ?side3 ?side4 A5.out).mono ?_); (case side1 => repeat (first | exact (Kd.R_reads' HO913.out).2.2 | (with_reducible refine Kd.C_alloc ?_ _) | (with_reducible refine Kd.C_drewN ?_ _) | (with_reducible refine Kd.C_drew ?_))); (case side2 => exact (Kd.R_reads' HO913.out).2.1); (case side3 => repeat (first | exact (Kd.R_reads' HO915.out).2.2 | (with_reducible refine Kd.C_alloc ?_ _) | (with_reducible refine Kd.C_drewN ?_ _) | (with_reducible refine Kd.C_drew ?_))); (case side4 => exact (Kd.R_reads' HO915.out).2.1); rintro e w13 ⟨v917, rfl, ho0, hb⟩; refine ⟨_, rfl, ?_⟩; have n0_ := Aside0.mk (Kd.R_below (by (with_reducible repeat (first | apply Kd.R_alloc | apply Kd.R_drewN | apply Kd.R_drew)); exact HO913.out) hb); have n1_ := Aside0.mk (Kd.R_below (by (with_reducible repeat (first | apply Kd.R_alloc | apply Kd.R_drewN | apply Kd.R_drew)); exact HO915.out) hb); have n2_ := Aside0.mk (Kd.R_lower ho0 (below_size (by repeat (first | (with_reducible first | exact HB.out | apply below_alloc | apply pw_below_drewN | apply below_drew1) | exact HB.out)))); have n3_ := Aside0.mk (below_step (by repeat (first | (with_reducible first | exact HB.out | apply below_alloc | apply pw_below_drewN | apply below_drew1) | exact HB.out)) hb); clear HO913; clear HO915; clear HB; have HO913 := n0_; have HO915 := n1_; have HO918 := n2_; have HB := n3_; clear n0_ n1_ n2_ n3_; (try clear hb); (try clear hb2); (try clear hk); (try clear hi); (try clear ho0)) | ((with_reducible refine gate_callee (f := 50) rfl ?_); refine goesL_ (some 23) rfl rfl Try.func50 (by kernel_rfl) rfl #[.slice Ao11 t910.length co11, .slice Ao12 t911.length co12] rfl (by (try simp only [List.map_toArray, List.map_cons, List.map_nil]); first | done | rfl | (simp only [List.length_drop, List.length_take]; rfl)) ?_; (with_reducible refine (spec_CodeText.calls k _ _ t910 _ _ t911 t919 _ ?side1 ?side2 ?side3 ?side4 A6.out).mono ?_); (case side1 => repeat (first | exact (Kd.R_reads' HO913.out).2.2 | (with_reducible refine Kd.C_alloc ?_ _) | (with_reducible refine Kd.C_drewN ?_ _) | (with_reducible refine Kd.C_drew ?_))); (case side2 => exact (Kd.R_reads' HO913.out).2.1); (case side3 => repeat (first | exact (Kd.R_reads' HO915.out).2.2 | (with_reducible refine Kd.C_alloc ?_ _) | (with_reducible refine Kd.C_drewN ?_ _) | (with_reducible refine Kd.C_drew ?_))); (case side4 => exact (Kd.R_reads' HO915.out).2.1); rintro e w14 ⟨v920, rfl, ho0, hb⟩; refine ⟨_, rfl, ?_⟩; have n0_ := Aside0.mk (Kd.R_below (by (with_reducible repeat (first | apply Kd.R_alloc | apply Kd.R_drewN | apply Kd.R_drew)); exact HO913.out) hb); have n1_ := Aside0.mk (Kd.R_below (by (with_reducible repeat (first | apply Kd.R_alloc | apply Kd.R_drewN | apply Kd.R_drew)); exact HO915.out) hb); have n2_ := Aside0.mk (Kd.R_elder' (by (with_reducible repeat (first | apply Kd.R_alloc | apply Kd.R_drewN | apply Kd.R_drew)); exact HO918.out) (Kd.R_base ho0) hb); have n3_ := Aside0.mk (Kd.R_lower (Kd.R_new' ho0 (Kd.R_lt (by (with_reducible repeat (first | apply Kd.R_alloc | apply Kd.R_drewN | apply Kd.R_drew)); exact HO918.out))) (below_size (by repeat (first | (with_reducible first | exact HB.out | apply below_alloc | apply pw_below_drewN | apply below_drew1) | exact HB.out)))); have n4_ := Aside0.mk (below_step (by repeat (first | (with_reducible first | exact HB.out | apply below_alloc | apply pw_below_drewN | apply below_drew1) | exact HB.out)) hb); clear HO913; clear HO915; clear HO918; clear HB; have HO913 := n0_; have HO915 := n1_; have HO918 := n2_; have HO921 := n3_; have HB := n4_; clear n0_ n1_ n2_ n3_ n4_; (try clear hb); (try clear hb2); (try clear hk); (try clear hi); (try clear ho0); obtain ⟨Ao15, co15, eo15⟩ := Kd.R_slice HO918.out; subst eo15; obtain ⟨Ao16, co16, eo16⟩ := Kd.R_slice HO921.out; subst eo16) | ((with_reducible refine gate_callee (f := 49) rfl ?_); refine goesL_ (some 24) rfl rfl Try.func49 (by kernel_rfl) rfl #[.slice Ao15 t916.length co15, .slice Ao16 t919.length co16] rfl (by (try simp only [List.map_toArray, List.map_cons, List.map_nil]); first | done | rfl | (simp only [List.length_drop, List.length_take]; rfl)) ?_; (with_reducible refine (laws_sameBytes.calls k _ _ t916 _ _ t919 true _ ?side1 ?side2 ?side3 ?side4 A7.out).mono ?_); (case side1 => repeat (first | exact (Kd.R_reads' HO918.out).2.2 | (with_reducible refine Kd.C_alloc ?_ _) | (with_reducible refine Kd.C_drewN ?_ _) | (with_reducible refine Kd.C_drew ?_))); (case side2 => exact (Kd.R_reads' HO918.out).2.1); (case side3 => repeat (first | exact (Kd.R_reads' HO921.out).2.2 | (with_reducible refine Kd.C_alloc ?_ _) | (with_reducible refine Kd.C_drewN ?_ _) | (with_reducible refine Kd.C_drew ?_))); (case side4 => exact (Kd.R_reads' HO921.out).2.1); rintro e w' ⟨rfl, ⟨nd, rfl⟩⟩; refine ⟨_, rfl, ?_⟩) | ((with_reducible refine gate_callee (f := 51) rfl ?_); refine goesL_ (some 27) rfl rfl Try.func51 (by kernel_rfl) rfl #[.slice Ao11 t910.length co11] rfl (by (try simp only [List.map_toArray, List.map_cons, List.map_nil]); first | done | rfl | (simp only [List.length_drop, List.length_take]; rfl)) ?_; (with_reducible refine (spec_LensOk.calls k _ _ t910 t923 _ ?side1 ?side2 A9.out).mono ?_); (case side1 => repeat (first | exact (Kd.R_reads' HO913.out).2.2 | (with_reducible refine Kd.C_alloc ?_ _) | (with_reducible refine Kd.C_drewN ?_ _) | (with_reducible refine Kd.C_drew ?_))); (case side2 => exact (Kd.R_reads' HO913.out).2.1); rintro e w' ⟨rfl, ⟨nd, rfl⟩⟩; refine ⟨_, rfl, ?_⟩))
   go_loopg [6, 7] k (fun kq v6 v7 w' => ∃ (x6_1 : Bool) (x7_1 : Int), v6 = .bool x6_1 ∧ v7 = .int .i64 x7_1 ∧ Aside0 (laws_FnCodesBack.l0 kq t910 t911 t916 x6_1 x7_1 = some r) ∧ Aside0 (kq ≤ k) ∧ Aside0 (Kd.R (Kd.int .i64) 3 w' w.heap.size (fun k_ => some k_ ≠ ((.slice Ao12 t911.length co12) : Value).ownBlock) (.slice Ao11 t910.length co11) t910) ∧ Aside0 (Kd.R (Kd.int .i64) 3 w' w.heap.size (fun k_ => some k_ ≠ ((.slice Ao11 t910.length co11) : Value).ownBlock) (.slice Ao12 t911.length co12) t911) ∧ Aside0 (Kd.R (Kd.int .u8) 5 w' w.heap.size (fun _ => True) (.slice Ao15 t916.length co15) t916) ∧ Aside0 (Below w.heap.size w w'))
   case atStart => exact ⟨(t923), (0), (by first | rfl | (simp; done) | (simp [*]; done)), (by first | rfl | (simp; done) | (simp [*]; done)), H', ⟨Nat.le_refl _⟩, ⟨by (with_reducible repeat (first | apply Kd.R_alloc | apply Kd.R_drewN | apply Kd.R_drew)); exact HO913.out⟩, ⟨by (with_reducible repeat (first | apply Kd.R_alloc | apply Kd.R_drewN | apply Kd.R_drew)); exact HO915.out⟩, ⟨by (with_reducible repeat (first | apply Kd.R_alloc | apply Kd.R_drewN | apply Kd.R_drew)); exact Kd.R_mono HO918.out (fun _ hk => trivial)⟩, ⟨by repeat (first | (with_reducible first | exact HB.out | apply below_alloc | apply pw_below_drewN | apply below_drew1) | exact HB.out)⟩⟩
   case round =>
    clear H'
    try clear c2
    try clear p2
    try clear c3
    try clear c4
    try clear c5
    try clear c8
    obtain ⟨x6_1, x7_1, rfl, rfl, HA, HK1, HO_3, HO_4, HO_5, HB⟩ := hrel
    cases gk with
    | zero => exact absurd HA.out (by simp [laws_FnCodesBack.l0])
    | succ k1 =>
     have H := HA.out
     clear HA
     simp only [laws_FnCodesBack.l0] at H
     by_cases c17 : x7_1 < (t911.length : Int)
     ·rw [if_pos c17] at H
      have c17b0 : decide (x7_1 < (t911.length : Int)) = true := decide_eq_true c17
      clear c17
      by_cases c18 : x6_1 = true
      ·subst c18
       have H1 : (if 0 ≤ x7_1 then (if (rd t911 x7_1) ≥ 0 then (if (rd t911 x7_1) < (t910.length : Int) then (if 0 ≤ (rd t911 x7_1) then (laws_FnCodesBack.l0 k1 t910 t911 t916 (decide ((rd t910 (rd t911 x7_1)) > 0)) (wrap64 (x7_1 + 1))) else (none)) else (laws_FnCodesBack.l0 k1 t910 t911 t916 false (wrap64 (x7_1 + 1)))) else (laws_FnCodesBack.l0 k1 t910 t911 t916 false (wrap64 (x7_1 + 1)))) else (none)) = some r := by rw [if_pos rfl] at H; exact H
       clear H
       have H := H1
       clear H1
       by_cases c19 : 0 ≤ x7_1
       ·rw [if_pos c19] at H
        have c19b0 : decide (0 ≤ x7_1) = true := decide_eq_true c19
        clear c19
        by_cases c20 : (rd t911 x7_1) ≥ 0
        ·rw [if_pos c20] at H
         have c20b0 : decide (0 ≤ (rd t911 x7_1)) = true := decide_eq_true c20
         clear c20
         by_cases c21 : (rd t911 x7_1) < (t910.length : Int)
         ·rw [if_pos c21] at H
          have c21b0 : decide ((rd t911 x7_1) < (t910.length : Int)) = true := decide_eq_true c21
          clear c21
          by_cases c22 : 0 ≤ (rd t911 x7_1)
          ·rw [if_pos c22] at H
           have c22b0 : decide (0 ≤ (rd t911 x7_1)) = true := decide_eq_true c22
           clear c22
           have H' := Aside0.mk H
           clear H
           have p924 : 0 ≤ (x7_1 : Int) := of_decide_eq_true (by first | (with_reducible assumption) | assumption)
           have q924 : x7_1 < (t911.length : Int) := of_decide_eq_true (by first | (with_reducible assumption) | assumption)
           obtain ⟨ad924, e924, hx924_0⟩ := Kd.at_int (Kd.R_reads' HO_4.out).2.2 x7_1 p924 q924
           cases e924
           replace p924 := eq_true p924
           replace q924 := eq_true q924
           have p925 : 0 ≤ (x7_1 : Int) := of_decide_eq_true (by first | (with_reducible assumption) | assumption)
           have q925 : x7_1 < (t911.length : Int) := of_decide_eq_true (by first | (with_reducible assumption) | assumption)
           obtain ⟨ad925, e925, hx925_0⟩ := Kd.at_int (Kd.R_reads' HO_4.out).2.2 x7_1 p925 q925
           obtain rfl : ad924 = ad925 := (by injection e925)
           replace p925 := eq_true p925
           replace q925 := eq_true q925
           have p926 : 0 ≤ (x7_1 : Int) := of_decide_eq_true (by first | (with_reducible assumption) | assumption)
           have q926 : x7_1 < (t911.length : Int) := of_decide_eq_true (by first | (with_reducible assumption) | assumption)
           obtain ⟨ad926, e926, hx926_0⟩ := Kd.at_int (Kd.R_reads' HO_4.out).2.2 x7_1 p926 q926
           obtain rfl : ad924 = ad926 := (by injection e926)
           replace p926 := eq_true p926
           replace q926 := eq_true q926
           have p927 : 0 ≤ ((rd t911 x7_1) : Int) := of_decide_eq_true (by first | (with_reducible assumption) | assumption)
           have q927 : (rd t911 x7_1) < (t910.length : Int) := of_decide_eq_true (by first | (with_reducible assumption) | assumption)
           obtain ⟨ad927, e927, hx927_0⟩ := Kd.at_int (Kd.R_reads' HO_3.out).2.2 (rd t911 x7_1) p927 q927
           cases e927
           replace p927 := eq_true p927
           replace q927 := eq_true q927
           go_wp2
           go_roundg k1
           case measure => have := HK1.out; omega
           case rel => exact ⟨(decide ((rd t910 (rd t911 x7_1)) > 0)), (wrap64 (x7_1 + 1)), (by first | rfl | (simp; done) | (simp [*]; done)), (by first | rfl | (simp; done) | (simp [*]; done)), H', ⟨by have := HK1.out; omega⟩, ⟨by (with_reducible repeat (first | apply Kd.R_alloc | apply Kd.R_drewN | apply Kd.R_drew)); exact HO_3.out⟩, ⟨by (with_reducible repeat (first | apply Kd.R_alloc | apply Kd.R_drewN | apply Kd.R_drew)); exact HO_4.out⟩, ⟨by (with_reducible repeat (first | apply Kd.R_alloc | apply Kd.R_drewN | apply Kd.R_drew)); exact HO_5.out⟩, ⟨by repeat (first | (with_reducible first | exact HB.out | apply below_alloc | apply pw_below_drewN | apply below_drew1) | exact HB.out)⟩⟩
          ·rw [if_neg c22] at H
           exact absurd H (by simp)
         ·rw [if_neg c21] at H
          have c21b0 : decide ((rd t911 x7_1) < (t910.length : Int)) = false := decide_eq_false c21
          clear c21
          have H' := Aside0.mk H
          clear H
          have p924 : 0 ≤ (x7_1 : Int) := of_decide_eq_true (by first | (with_reducible assumption) | assumption)
          have q924 : x7_1 < (t911.length : Int) := of_decide_eq_true (by first | (with_reducible assumption) | assumption)
          obtain ⟨ad924, e924, hx924_0⟩ := Kd.at_int (Kd.R_reads' HO_4.out).2.2 x7_1 p924 q924
          cases e924
          replace p924 := eq_true p924
          replace q924 := eq_true q924
          have p925 : 0 ≤ (x7_1 : Int) := of_decide_eq_true (by first | (with_reducible assumption) | assumption)
          have q925 : x7_1 < (t911.length : Int) := of_decide_eq_true (by first | (with_reducible assumption) | assumption)
          obtain ⟨ad925, e925, hx925_0⟩ := Kd.at_int (Kd.R_reads' HO_4.out).2.2 x7_1 p925 q925
          obtain rfl : ad924 = ad925 := (by injection e925)
          replace p925 := eq_true p925
          replace q925 := eq_true q925
          go_wp2
          go_roundg k1
          case measure => have := HK1.out; omega
          case rel => exact ⟨(false), (wrap64 (x7_1 + 1)), (by first | rfl | (simp; done) | (simp [*]; done)), (by first | rfl | (simp; done) | (simp [*]; done)), H', ⟨by have := HK1.out; omega⟩, ⟨by (with_reducible repeat (first | apply Kd.R_alloc | apply Kd.R_drewN | apply Kd.R_drew)); exact HO_3.out⟩, ⟨by (with_reducible repeat (first | apply Kd.R_alloc | apply Kd.R_drewN | apply Kd.R_drew)); exact HO_4.out⟩, ⟨by (with_reducible repeat (first | apply Kd.R_alloc | apply Kd.R_drewN | apply Kd.R_drew)); exact HO_5.out⟩, ⟨by repeat (first | (with_reducible first | exact HB.out | apply below_alloc | apply pw_below_drewN | apply below_drew1) | exact HB.out)⟩⟩
        ·rw [if_neg c20] at H
         have c20b0 : decide (0 ≤ (rd t911 x7_1)) = false := decide_eq_false c20
         clear c20
         have H' := Aside0.mk H
         clear H
         have p924 : 0 ≤ (x7_1 : Int) := of_decide_eq_true (by first | (with_reducible assumption) | assumption)
         have q924 : x7_1 < (t911.length : Int) := of_decide_eq_true (by first | (with_reducible assumption) | assumption)
         obtain ⟨ad924, e924, hx924_0⟩ := Kd.at_int (Kd.R_reads' HO_4.out).2.2 x7_1 p924 q924
         cases e924
         replace p924 := eq_true p924
         replace q924 := eq_true q924
         go_wp2
         go_roundg k1
         case measure => have := HK1.out; omega
         case rel => exact ⟨(false), (wrap64 (x7_1 + 1)), (by first | rfl | (simp; done) | (simp [*]; done)), (by first | rfl | (simp; done) | (simp [*]; done)), H', ⟨by have := HK1.out; omega⟩, ⟨by (with_reducible repeat (first | apply Kd.R_alloc | apply Kd.R_drewN | apply Kd.R_drew)); exact HO_3.out⟩, ⟨by (with_reducible repeat (first | apply Kd.R_alloc | apply Kd.R_drewN | apply Kd.R_drew)); exact HO_4.out⟩, ⟨by (with_reducible repeat (first | apply Kd.R_alloc | apply Kd.R_drewN | apply Kd.R_drew)); exact HO_5.out⟩, ⟨by repeat (first | (with_reducible first | exact HB.out | apply below_alloc | apply pw_below_drewN | apply below_drew1) | exact HB.out)⟩⟩
       ·rw [if_neg c19] at H
        exact absurd H (by simp)
      ·replace c18 := Bool.eq_false_iff.mpr c18
       subst c18
       have H1 : (laws_FnCodesBack.l0 k1 t910 t911 t916 false (wrap64 (x7_1 + 1))) = some r := by rw [if_neg (show ¬ (false = true) by decide)] at H; exact H
       clear H
       have H := H1
       clear H1
       have H' := Aside0.mk H
       clear H
       go_wp2
       go_roundg k1
       case measure => have := HK1.out; omega
       case rel => exact ⟨(false), (wrap64 (x7_1 + 1)), (by first | rfl | (simp; done) | (simp [*]; done)), (by first | rfl | (simp; done) | (simp [*]; done)), H', ⟨by have := HK1.out; omega⟩, ⟨by (with_reducible repeat (first | apply Kd.R_alloc | apply Kd.R_drewN | apply Kd.R_drew)); exact HO_3.out⟩, ⟨by (with_reducible repeat (first | apply Kd.R_alloc | apply Kd.R_drewN | apply Kd.R_drew)); exact HO_4.out⟩, ⟨by (with_reducible repeat (first | apply Kd.R_alloc | apply Kd.R_drewN | apply Kd.R_drew)); exact HO_5.out⟩, ⟨by repeat (first | (with_reducible first | exact HB.out | apply below_alloc | apply pw_below_drewN | apply below_drew1) | exact HB.out)⟩⟩
     ·rw [if_neg c17] at H
      have c17b0 : decide (x7_1 < (t911.length : Int)) = false := decide_eq_false c17
      clear c17
      by_cases c23 : x6_1 = true
      ·subst c23
       have H1 : ((impl_CodeRead.f t910 t916 (t911.length : Int)).bind fun bt928 => (if bt928.2 = true then ((laws_sameInts.f k1 bt928.1 t911).bind fun t932 => (some t932)) else (some false))) = some r := by rw [if_pos rfl] at H; exact H
       clear H
       have H := H1
       clear H1
       replace H := Option.bind_eq_some_iff.mp H
       obtain ⟨⟨t928, t929⟩, A240, H⟩ := H
       replace H : (if t929 = true then ((laws_sameInts.f k1 t928 t911).bind fun t932 => (some t932)) else (some false)) = some r := H
       have A24 := Aside0.mk A240
       clear A240
       by_cases c25 : t929 = true
       ·subst c25
        have H1 : ((laws_sameInts.f k1 t928 t911).bind fun t932 => (some t932)) = some r := by rw [if_pos rfl] at H; exact H
        clear H
        have H := H1
        clear H1
        replace H := Option.bind_eq_some_iff.mp H
        obtain ⟨t932, A260, H⟩ := H
        replace H : (some t932) = some r := H
        have A26 := Aside0.mk A260
        clear A260
        obtain rfl := Option.some.inj H
        go_wp2_with (first | ((with_reducible refine gate_callee (f := 18) rfl ?_); refine goesL_ (some 71) rfl rfl Try.func18 (by kernel_rfl) rfl #[.slice Ao11 t910.length co11, .slice Ao15 t916.length co15, .int .i64 (t911.length : Int)] rfl (by (try simp only [List.map_toArray, List.map_cons, List.map_nil]); first | done | rfl | (simp only [List.length_drop, List.length_take]; rfl)) ?_; (with_reducible refine (impl_CodeRead.calls _ _ t910 _ _ t916 (t911.length : Int) t928 true _ ?side1 ?side2 ?side3 ?side4 A24.out).mono ?_); (case side1 => repeat (first | exact (Kd.R_reads' HO_3.out).2.2 | (with_reducible refine Kd.C_alloc ?_ _) | (with_reducible refine Kd.C_drewN ?_ _) | (with_reducible refine Kd.C_drew ?_))); (case side2 => exact (Kd.R_reads' HO_3.out).2.1); (case side3 => repeat (first | exact (Kd.R_reads' HO_5.out).2.2 | (with_reducible refine Kd.C_alloc ?_ _) | (with_reducible refine Kd.C_drewN ?_ _) | (with_reducible refine Kd.C_drew ?_))); (case side4 => exact (Kd.R_reads' HO_5.out).2.1); rintro e w27 ⟨v930, rfl, ho0, hb⟩; refine ⟨_, rfl, ?_⟩; have n0_ := Aside0.mk (Kd.R_elder' (by (with_reducible repeat (first | apply Kd.R_alloc | apply Kd.R_drewN | apply Kd.R_drew)); exact HO_3.out) (Kd.R_base ho0) hb); have n1_ := Aside0.mk (Kd.R_elder' (by (with_reducible repeat (first | apply Kd.R_alloc | apply Kd.R_drewN | apply Kd.R_drew)); exact HO_4.out) (Kd.R_base ho0) hb); have n2_ := Aside0.mk (Kd.R_below (by (with_reducible repeat (first | apply Kd.R_alloc | apply Kd.R_drewN | apply Kd.R_drew)); exact HO_5.out) hb); have n3_ := Aside0.mk (Kd.R_lower (Kd.R_new' (Kd.R_new' ho0 (Kd.R_lt (by (with_reducible repeat (first | apply Kd.R_alloc | apply Kd.R_drewN | apply Kd.R_drew)); exact HO_3.out))) (Kd.R_lt (by (with_reducible repeat (first | apply Kd.R_alloc | apply Kd.R_drewN | apply Kd.R_drew)); exact HO_4.out))) (below_size (by repeat (first | (with_reducible first | exact HB.out | apply below_alloc | apply pw_below_drewN | apply below_drew1) | exact HB.out)))); have n4_ := Aside0.mk (below_step (by repeat (first | (with_reducible first | exact HB.out | apply below_alloc | apply pw_below_drewN | apply below_drew1) | exact HB.out)) hb); clear HO_3; clear HO_4; clear HO_5; clear HB; have HO_3 := n0_; have HO_4 := n1_; have HO_5 := n2_; have HO931 := n3_; have HB := n4_; clear n0_ n1_ n2_ n3_ n4_; (try clear hb); (try clear hb2); (try clear hk); (try clear hi); (try clear ho0); obtain ⟨Ao28, co28, eo28⟩ := Kd.R_slice HO931.out; subst eo28) | (go_at_call 29; (with_reducible refine (laws_sameInts.calls k1 _ _ t928 _ _ t911 t932 _ ?side1 ?side2 ?side3 ?side4 A26.out).mono ?_); (case side1 => repeat (first | exact (Kd.R_reads' HO931.out).2.2 | (with_reducible refine Kd.C_alloc ?_ _) | (with_reducible refine Kd.C_drewN ?_ _) | (with_reducible refine Kd.C_drew ?_))); (case side2 => exact (Kd.R_reads' HO931.out).2.1); (case side3 => repeat (first | exact (Kd.R_reads' HO_4.out).2.2 | (with_reducible refine Kd.C_alloc ?_ _) | (with_reducible refine Kd.C_drewN ?_ _) | (with_reducible refine Kd.C_drew ?_))); (case side4 => exact (Kd.R_reads' HO_4.out).2.1); rintro e w' ⟨rfl, ⟨nd, rfl⟩⟩))
        go_ret
        exact ⟨by first | rfl | (simp [errW_none, errW_some] <;> rfl) | (simp [*, errW_none, errW_some] <;> rfl), by repeat (first | (with_reducible first | exact HB.out | apply below_alloc | apply pw_below_drewN | apply below_drew1) | exact HB.out)⟩
       ·replace c25 := Bool.eq_false_iff.mpr c25
        subst c25
        have H1 : (some false) = some r := by rw [if_neg (show ¬ (false = true) by decide)] at H; exact H
        clear H
        have H := H1
        clear H1
        obtain rfl := Option.some.inj H
        go_wp2_with (first | ((with_reducible refine gate_callee (f := 18) rfl ?_); refine goesL_ (some 71) rfl rfl Try.func18 (by kernel_rfl) rfl #[.slice Ao11 t910.length co11, .slice Ao15 t916.length co15, .int .i64 (t911.length : Int)] rfl (by (try simp only [List.map_toArray, List.map_cons, List.map_nil]); first | done | rfl | (simp only [List.length_drop, List.length_take]; rfl)) ?_; (with_reducible refine (impl_CodeRead.calls _ _ t910 _ _ t916 (t911.length : Int) t928 false _ ?side1 ?side2 ?side3 ?side4 A24.out).mono ?_); (case side1 => repeat (first | exact (Kd.R_reads' HO_3.out).2.2 | (with_reducible refine Kd.C_alloc ?_ _) | (with_reducible refine Kd.C_drewN ?_ _) | (with_reducible refine Kd.C_drew ?_))); (case side2 => exact (Kd.R_reads' HO_3.out).2.1); (case side3 => repeat (first | exact (Kd.R_reads' HO_5.out).2.2 | (with_reducible refine Kd.C_alloc ?_ _) | (with_reducible refine Kd.C_drewN ?_ _) | (with_reducible refine Kd.C_drew ?_))); (case side4 => exact (Kd.R_reads' HO_5.out).2.1); rintro e w29 ⟨v930, rfl, ho0, hb⟩; refine ⟨_, rfl, ?_⟩; have n0_ := Aside0.mk (Kd.R_elder' (by (with_reducible repeat (first | apply Kd.R_alloc | apply Kd.R_drewN | apply Kd.R_drew)); exact HO_3.out) (Kd.R_base ho0) hb); have n1_ := Aside0.mk (Kd.R_elder' (by (with_reducible repeat (first | apply Kd.R_alloc | apply Kd.R_drewN | apply Kd.R_drew)); exact HO_4.out) (Kd.R_base ho0) hb); have n2_ := Aside0.mk (Kd.R_below (by (with_reducible repeat (first | apply Kd.R_alloc | apply Kd.R_drewN | apply Kd.R_drew)); exact HO_5.out) hb); have n3_ := Aside0.mk (Kd.R_lower (Kd.R_new' (Kd.R_new' ho0 (Kd.R_lt (by (with_reducible repeat (first | apply Kd.R_alloc | apply Kd.R_drewN | apply Kd.R_drew)); exact HO_3.out))) (Kd.R_lt (by (with_reducible repeat (first | apply Kd.R_alloc | apply Kd.R_drewN | apply Kd.R_drew)); exact HO_4.out))) (below_size (by repeat (first | (with_reducible first | exact HB.out | apply below_alloc | apply pw_below_drewN | apply below_drew1) | exact HB.out)))); have n4_ := Aside0.mk (below_step (by repeat (first | (with_reducible first | exact HB.out | apply below_alloc | apply pw_below_drewN | apply below_drew1) | exact HB.out)) hb); clear HO_3; clear HO_4; clear HO_5; clear HB; have HO_3 := n0_; have HO_4 := n1_; have HO_5 := n2_; have HO931 := n3_; have HB := n4_; clear n0_ n1_ n2_ n3_ n4_; (try clear hb); (try clear hb2); (try clear hk); (try clear hi); (try clear ho0)))
        go_ret
        exact ⟨by first | rfl | (simp [errW_none, errW_some] <;> rfl) | (simp [*, errW_none, errW_some] <;> rfl), by repeat (first | (with_reducible first | exact HB.out | apply below_alloc | apply pw_below_drewN | apply below_drew1) | exact HB.out)⟩
      ·replace c23 := Bool.eq_false_iff.mpr c23
       subst c23
       have H1 : (some ((t916.length : Int) == 0)) = some r := by rw [if_neg (show ¬ (false = true) by decide)] at H; exact H
       clear H
       have H := H1
       clear H1
       obtain rfl := Option.some.inj H
       go_wp2
       go_ret
       exact ⟨by first | rfl | (simp [errW_none, errW_some] <;> rfl) | (simp [*, errW_none, errW_some] <;> rfl), by repeat (first | (with_reducible first | exact HB.out | apply below_alloc | apply pw_below_drewN | apply below_drew1) | exact HB.out)⟩
  ·replace c8 := Bool.eq_false_iff.mpr c8
   subst c8
   have H1 : (some false) = some r := by rw [if_neg (show ¬ (false = true) by decide)] at H; exact H
   clear H
   have H := H1
   clear H1
   obtain rfl := Option.some.inj H
   go_enter Try.func8, Try.ntmps8
   go_wp2_with (first | ((with_reducible refine gate_callee (f := 24) rfl ?_); refine goesL_ (some 11) rfl rfl Try.func24 (by kernel_rfl) rfl #[.slice A0 l0.length c0] rfl (by (try simp only [List.map_toArray, List.map_cons, List.map_nil]); first | done | rfl | (simp only [List.length_drop, List.length_take]; rfl)) ?_; (with_reducible refine (laws_big.calls _ _ l0 false _ ?side1 ?side2 A2.out).mono ?_); (case side1 => repeat (first | exact HR0.out | (with_reducible refine Kd.C_alloc ?_ _) | (with_reducible refine Kd.C_drewN ?_ _) | (with_reducible refine Kd.C_drew ?_))); (case side2 => exact HC0.out); rintro e w' ⟨rfl, ⟨nd, rfl⟩⟩; refine ⟨_, rfl, ?_⟩) | ((with_reducible refine gate_callee (f := 47) rfl ?_); refine goesL_ (some 14) rfl rfl Try.func47 (by kernel_rfl) rfl #[.slice A0 l0.length c0] rfl (by (try simp only [List.map_toArray, List.map_cons, List.map_nil]); first | done | rfl | (simp only [List.length_drop, List.length_take]; rfl)) ?_; (with_reducible refine (spec_DrawCodeText.calls k _ _ l0 t910 t911 _ ?side1 ?side2 A4.out).mono ?_); (case side1 => repeat (first | exact HR0.out | (with_reducible refine Kd.C_alloc ?_ _) | (with_reducible refine Kd.C_drewN ?_ _) | (with_reducible refine Kd.C_drew ?_))); (case side2 => exact HC0.out); rintro e w30 ⟨v912, v914, rfl, ho0, ho1, hb⟩; refine ⟨_, rfl, ?_⟩; have n0_ := Aside0.mk (Kd.R_lower ho0 (below_size (by repeat (first | (with_reducible first | exact HB.out | apply below_alloc | apply pw_below_drewN | apply below_drew1) | exact HB.out)))); have n1_ := Aside0.mk (Kd.R_lower ho1 (below_size (by repeat (first | (with_reducible first | exact HB.out | apply below_alloc | apply pw_below_drewN | apply below_drew1) | exact HB.out)))); have n2_ := Aside0.mk (below_step (by repeat (first | (with_reducible first | exact HB.out | apply below_alloc | apply pw_below_drewN | apply below_drew1) | exact HB.out)) hb); clear HB; have HO913 := n0_; have HO915 := n1_; have HB := n2_; clear n0_ n1_ n2_; (try clear hb); (try clear hb2); (try clear hk); (try clear hi); (try clear ho0); (try clear ho1); obtain ⟨Ao31, co31, eo31⟩ := Kd.R_slice HO913.out; subst eo31; obtain ⟨Ao32, co32, eo32⟩ := Kd.R_slice HO915.out; subst eo32) | ((with_reducible refine gate_callee (f := 48) rfl ?_); refine goesL_ (some 19) rfl rfl Try.func48 (by kernel_rfl) rfl #[.slice Ao31 t910.length co31, .slice Ao32 t911.length co32] rfl (by (try simp only [List.map_toArray, List.map_cons, List.map_nil]); first | done | rfl | (simp only [List.length_drop, List.length_take]; rfl)) ?_; (with_reducible refine (impl_CodeText.calls _ _ t910 _ _ t911 t916 _ ?side1 ?side2 ?side3 ?side4 A5.out).mono ?_); (case side1 => repeat (first | exact (Kd.R_reads' HO913.out).2.2 | (with_reducible refine Kd.C_alloc ?_ _) | (with_reducible refine Kd.C_drewN ?_ _) | (with_reducible refine Kd.C_drew ?_))); (case side2 => exact (Kd.R_reads' HO913.out).2.1); (case side3 => repeat (first | exact (Kd.R_reads' HO915.out).2.2 | (with_reducible refine Kd.C_alloc ?_ _) | (with_reducible refine Kd.C_drewN ?_ _) | (with_reducible refine Kd.C_drew ?_))); (case side4 => exact (Kd.R_reads' HO915.out).2.1); rintro e w33 ⟨v917, rfl, ho0, hb⟩; refine ⟨_, rfl, ?_⟩; have n0_ := Aside0.mk (Kd.R_below (by (with_reducible repeat (first | apply Kd.R_alloc | apply Kd.R_drewN | apply Kd.R_drew)); exact HO913.out) hb); have n1_ := Aside0.mk (Kd.R_below (by (with_reducible repeat (first | apply Kd.R_alloc | apply Kd.R_drewN | apply Kd.R_drew)); exact HO915.out) hb); have n2_ := Aside0.mk (Kd.R_lower ho0 (below_size (by repeat (first | (with_reducible first | exact HB.out | apply below_alloc | apply pw_below_drewN | apply below_drew1) | exact HB.out)))); have n3_ := Aside0.mk (below_step (by repeat (first | (with_reducible first | exact HB.out | apply below_alloc | apply pw_below_drewN | apply below_drew1) | exact HB.out)) hb); clear HO913; clear HO915; clear HB; have HO913 := n0_; have HO915 := n1_; have HO918 := n2_; have HB := n3_; clear n0_ n1_ n2_ n3_; (try clear hb); (try clear hb2); (try clear hk); (try clear hi); (try clear ho0)) | ((with_reducible refine gate_callee (f := 50) rfl ?_); refine goesL_ (some 23) rfl rfl Try.func50 (by kernel_rfl) rfl #[.slice Ao31 t910.length co31, .slice Ao32 t911.length co32] rfl (by (try simp only [List.map_toArray, List.map_cons, List.map_nil]); first | done | rfl | (simp only [List.length_drop, List.length_take]; rfl)) ?_; (with_reducible refine (spec_CodeText.calls k _ _ t910 _ _ t911 t919 _ ?side1 ?side2 ?side3 ?side4 A6.out).mono ?_); (case side1 => repeat (first | exact (Kd.R_reads' HO913.out).2.2 | (with_reducible refine Kd.C_alloc ?_ _) | (with_reducible refine Kd.C_drewN ?_ _) | (with_reducible refine Kd.C_drew ?_))); (case side2 => exact (Kd.R_reads' HO913.out).2.1); (case side3 => repeat (first | exact (Kd.R_reads' HO915.out).2.2 | (with_reducible refine Kd.C_alloc ?_ _) | (with_reducible refine Kd.C_drewN ?_ _) | (with_reducible refine Kd.C_drew ?_))); (case side4 => exact (Kd.R_reads' HO915.out).2.1); rintro e w34 ⟨v920, rfl, ho0, hb⟩; refine ⟨_, rfl, ?_⟩; have n0_ := Aside0.mk (Kd.R_below (by (with_reducible repeat (first | apply Kd.R_alloc | apply Kd.R_drewN | apply Kd.R_drew)); exact HO913.out) hb); have n1_ := Aside0.mk (Kd.R_below (by (with_reducible repeat (first | apply Kd.R_alloc | apply Kd.R_drewN | apply Kd.R_drew)); exact HO915.out) hb); have n2_ := Aside0.mk (Kd.R_elder' (by (with_reducible repeat (first | apply Kd.R_alloc | apply Kd.R_drewN | apply Kd.R_drew)); exact HO918.out) (Kd.R_base ho0) hb); have n3_ := Aside0.mk (Kd.R_lower (Kd.R_new' ho0 (Kd.R_lt (by (with_reducible repeat (first | apply Kd.R_alloc | apply Kd.R_drewN | apply Kd.R_drew)); exact HO918.out))) (below_size (by repeat (first | (with_reducible first | exact HB.out | apply below_alloc | apply pw_below_drewN | apply below_drew1) | exact HB.out)))); have n4_ := Aside0.mk (below_step (by repeat (first | (with_reducible first | exact HB.out | apply below_alloc | apply pw_below_drewN | apply below_drew1) | exact HB.out)) hb); clear HO913; clear HO915; clear HO918; clear HB; have HO913 := n0_; have HO915 := n1_; have HO918 := n2_; have HO921 := n3_; have HB := n4_; clear n0_ n1_ n2_ n3_ n4_; (try clear hb); (try clear hb2); (try clear hk); (try clear hi); (try clear ho0); obtain ⟨Ao35, co35, eo35⟩ := Kd.R_slice HO918.out; subst eo35; obtain ⟨Ao36, co36, eo36⟩ := Kd.R_slice HO921.out; subst eo36) | ((with_reducible refine gate_callee (f := 49) rfl ?_); refine goesL_ (some 24) rfl rfl Try.func49 (by kernel_rfl) rfl #[.slice Ao35 t916.length co35, .slice Ao36 t919.length co36] rfl (by (try simp only [List.map_toArray, List.map_cons, List.map_nil]); first | done | rfl | (simp only [List.length_drop, List.length_take]; rfl)) ?_; (with_reducible refine (laws_sameBytes.calls k _ _ t916 _ _ t919 false _ ?side1 ?side2 ?side3 ?side4 A7.out).mono ?_); (case side1 => repeat (first | exact (Kd.R_reads' HO918.out).2.2 | (with_reducible refine Kd.C_alloc ?_ _) | (with_reducible refine Kd.C_drewN ?_ _) | (with_reducible refine Kd.C_drew ?_))); (case side2 => exact (Kd.R_reads' HO918.out).2.1); (case side3 => repeat (first | exact (Kd.R_reads' HO921.out).2.2 | (with_reducible refine Kd.C_alloc ?_ _) | (with_reducible refine Kd.C_drewN ?_ _) | (with_reducible refine Kd.C_drew ?_))); (case side4 => exact (Kd.R_reads' HO921.out).2.1); rintro e w' ⟨rfl, ⟨nd, rfl⟩⟩; refine ⟨_, rfl, ?_⟩))
   go_ret
   exact ⟨by first | rfl | (simp [errW_none, errW_some] <;> rfl) | (simp [*, errW_none, errW_some] <;> rfl), by repeat (first | (with_reducible first | exact HB.out | apply below_alloc | apply pw_below_drewN | apply below_drew1) | exact HB.out)⟩
end Go.Proofs.Ytcjjmfpkhhdmlaa.G


namespace Go.Proofs.Ytcjjmfpkhhdmlaa.G
open Go.RowKit Go.Proofs.YtcjjmfpkhhdmlaaW.PrintWords Go.Proofs.YtcjjmfpkhhdmlaaW.PrintLast Go.Proofs.YtcjjmfpkhhdmlaaW.PrintMore
attribute [local go_sem] max2_int min2_int max_two min_two max_three min_three max_four min_four   -- for this text's walks alone
theorem valF_in (P C Q : List Bool) : valF (bt1 (P ++ (C ++ Q))) P.length C.length = valF (bt1 C) 0 C.length := by
 have gen : ∀ k, k ≤ C.length → valF (bt1 (P ++ (C ++ Q))) P.length k = valF (bt1 C) 0 k := by
  intro k
  induction k with
  | zero => intro _; rfl
  | succ k ih =>
   intro hk
   simp only [valF]
   rw [ih (by omega), bt1_right, Nat.zero_add, bt1_left _ _ _ (by omega)]
 exact gen _ (Nat.le_refl _)
theorem bitAt_pack (B : List Bool) (p : Nat) (h : p < 8 * ((B.length + 7) / 8)) : bitAt (packM B) p = bt1 B p := by
 unfold bitAt packM
 have hj : p / 8 < (B.length + 7) / 8 := by omega
 have hg : (outOf B ((B.length + 7) / 8)).getD (p / 8) 0 = valF (bt1 B) (8 * (p / 8)) 8 := by
  unfold outOf
  rw [List.getD_eq_getElem?_getD, List.getElem?_map, List.getElem?_range hj]; rfl
 rw [hg]
 have e := valF_add (bt1 B) (8 * (p / 8)) (p % 8 + 1) (7 - p % 8)
 rw [show p % 8 + 1 + (7 - p % 8) = 8 by omega] at e
 have hr := valF_range (bt1 B) (bt1_01 B) (8 * (p / 8) + (p % 8 + 1)) (7 - p % 8)
 have hp := pow_one (7 - p % 8)
 have d1 : valF (bt1 B) (8 * (p / 8)) 8 / 2 ^ (7 - p % 8) = valF (bt1 B) (8 * (p / 8)) (p % 8 + 1) := by
  rw [e, Int.add_comm, Int.add_mul_ediv_right _ _ (by omega), Int.ediv_eq_zero_of_lt hr.1 hr.2, Int.zero_add]
 rw [d1]
 simp only [valF]
 have h01 := bt1_01 B p
 rw [show 8 * (p / 8) + p % 8 = p by omega]
 omega
theorem packM_len (B : List Bool) : (packM B).length = (B.length + 7) / 8 := by unfold packM; exact outOf_len B _
theorem packM_byte (B : List Bool) : ∀ x ∈ packM B, 0 ≤ x ∧ x ≤ 255 := by
 intro x hx
 unfold packM outOf at hx
 rw [List.mem_map] at hx
 obtain ⟨j, _, rfl⟩ := hx
 exact valF_255 B _ 8 (Nat.le_refl _)
end Go.Proofs.Ytcjjmfpkhhdmlaa.G


namespace Go.Proofs.Ytcjjmfpkhhdmlaa.G
open Go.RowKit Go.Proofs.YtcjjmfpkhhdmlaaW.PrintWords Go.Proofs.YtcjjmfpkhhdmlaaW.PrintLast Go.Proofs.YtcjjmfpkhhdmlaaW.PrintMore
attribute [local go_sem] max2_int min2_int max_two min_two max_three min_three max_four min_four   -- for this text's walks alone
/-- what the first i symbols' codes of up to l bits take -/
def kU (lens : List Int) (l : Nat) : Nat → Int
 | 0 => 0
 | i + 1 => kU lens l i + if 0 < rd lens i ∧ rd lens i ≤ l then 2 ^ (16 - rd lens i).toNat else 0
theorem kU_step (lens : List Int) (l : Nat) (hl : l + 1 ≤ 16) (i : Nat) : kU lens (l + 1) i = kU lens l i + cntL lens ((l + 1 : Nat) : Int) i * 2 ^ (16 - (l + 1)) := by
 induction i with
 | zero => simp [kU, cntL]
 | succ i ih =>
  simp only [kU, cntL]
  rw [ih, Int.add_mul]
  by_cases e : rd lens i = ((l + 1 : Nat) : Int)
  ·rw [if_pos (by omega), if_neg (by omega), if_pos e, e, show (16 - ((l + 1 : Nat) : Int)).toNat = 16 - (l + 1) by omega]
   omega
  ·rw [if_neg e]
   by_cases h : 0 < rd lens i ∧ rd lens i ≤ l
   ·rw [if_pos (by omega), if_pos h]; omega
   ·rw [if_neg (by omega), if_neg h]; omega
theorem nextC_kU (lens : List Int) : ∀ l : Nat, l ≤ 16 → nextC lens l * 2 ^ (16 - l) = kU lens l lens.length := by
 intro l
 induction l with
 | zero =>
  intro _
  have : ∀ i, kU lens 0 i = 0 := by
   intro i
   induction i with
   | zero => rfl
   | succ i ih => simp only [kU]; rw [ih, if_neg (by omega)]; rfl
  rw [this]; simp [nextC]
 | succ l ih =>
  intro hl
  have h1 := ih (by omega)
  rw [kU_step lens l hl, ← h1]
  simp only [nextC]
  rw [Int.add_mul]
  congr 1
  rw [show 16 - l = (16 - (l + 1)) + 1 by omega, Int.pow_succ, Int.mul_comm 2 (nextC lens l), Int.mul_assoc]
  congr 1
  exact Int.mul_comm _ _
theorem kraft_snoc (a : List Int) (x : Int) : kraft (a ++ [x]) = kraft a + if 0 < x then 2 ^ (16 - x).toNat else 0 := by
 induction a with
 | nil => simp [kraft]
 | cons y a ih => simp only [List.cons_append, kraft, ih]; omega
theorem kU_le (lens : List Int) (l : Nat) : ∀ i : Nat, i ≤ lens.length → kU lens l i ≤ kraft (lens.take i) := by
 intro i
 induction i with
 | zero => intro _; simp [kU, kraft]
 | succ i ih =>
  intro hi
  have h1 := ih (by omega)
  rw [List.take_succ_eq_append_getElem (by omega), kraft_snoc, ← rd_nat lens i (by omega)]
  simp only [kU]
  have hp : (0 : Int) ≤ 2 ^ (16 - rd lens i).toNat := Int.le_of_lt (Int.pow_pos (by decide))
  by_cases h : 0 < rd lens i
  ·rw [if_pos h]
   split <;> omega
  ·rw [if_neg h, if_neg (by omega)]; omega
theorem nextC_fits (lens : List Int) (h : lensOkM lens = true) (l : Nat) (hl : l ≤ 16) : nextC lens l ≤ 2 ^ l := by
 have hk := (lensOk_parts h).2.2.2
 have h1 := nextC_kU lens l hl
 have h2 := kU_le lens l lens.length (Nat.le_refl _)
 rw [List.take_length] at h2
 have e : (2 : Int) ^ l * 2 ^ (16 - l) = 65536 := by rw [← Int.pow_add, show l + (16 - l) = 16 by omega]; rfl
 have hp : (0 : Int) < 2 ^ (16 - l) := Int.pow_pos (by decide)
 exact Int.le_of_mul_le_mul_right (by omega) hp
/-- a symbol's code -/
theorem code_lt (lens : List Int) (l s : Nat) (h1 : 1 ≤ l) (hs : s < lens.length) (he : rd lens s = l) : codeC lens l s < nextC lens l := by
 rw [← codeC_next lens l h1]
 have := cntL_lt lens (l : Int) s lens.length hs he
 unfold codeC
 omega
theorem nextC_up (lens : List Int) (l : Nat) : ∀ e : Nat, nextC lens l * 2 ^ e ≤ nextC lens (l + e) := by
 intro e
 induction e with
 | zero => simp
 | succ e ih =>
  have := (cntL_range lens ((l + e + 1 : Nat) : Int) lens.length).1
  rw [show l + (e + 1) = (l + e) + 1 by omega, Int.pow_succ]
  simp only [nextC]
  have e2 : nextC lens l * (2 ^ e * 2) = 2 * (nextC lens l * 2 ^ e) := by rw [← Int.mul_assoc, Int.mul_comm]
  rw [e2]
  omega
theorem code_up (lens : List Int) (l L s : Nat) (h : l < L) : nextC lens l * 2 ^ (L - l) ≤ codeC lens L s := by
 have h1 := nextC_up lens l (L - 1 - l)
 rw [show l + (L - 1 - l) = L - 1 by omega] at h1
 have h2 := (cntL_range lens (L : Int) s).1
 unfold codeC
 rw [show L - l = (L - 1 - l) + 1 by omega, Int.pow_succ]
 have e2 : nextC lens l * (2 ^ (L - 1 - l) * 2) = 2 * (nextC lens l * 2 ^ (L - 1 - l)) := by rw [← Int.mul_assoc, Int.mul_comm]
 rw [e2]
 omega
/-- the value of a number's first bits -/
theorem valF_first (P Q : List Bool) (n : Nat) (v : Int) (h0 : 0 ≤ v) (h1 : v < 2 ^ n) : ∀ k, k ≤ n → valF (bt1 (P ++ (bitsN n v ++ Q))) P.length k = v / 2 ^ (n - k) := by
 intro k hk
 have hfull : valF (bt1 (P ++ (bitsN n v ++ Q))) P.length n = v := by
  have := valF_in P (bitsN n v) Q
  rw [bitsN_length] at this
  rw [this, bitsN_val n v h0 h1]
 have ha := valF_add (bt1 (P ++ (bitsN n v ++ Q))) P.length k (n - k)
 rw [show k + (n - k) = n by omega, hfull] at ha
 have hr := valF_range (bt1 (P ++ (bitsN n v ++ Q))) (bt1_01 _) (P.length + k) (n - k)
 generalize valF (bt1 (P ++ (bitsN n v ++ Q))) P.length k = u at ha ⊢
 generalize valF (bt1 (P ++ (bitsN n v ++ Q))) (P.length + k) (n - k) = w at ha hr
 rw [ha, Int.add_comm, Int.add_mul_ediv_right _ _ (by have := pow_one (n - k); omega), Int.ediv_eq_zero_of_lt hr.1 hr.2, Int.zero_add]
theorem code_field (lens : List Int) (h : lensOkM lens = true) (s : Nat) (hs : s < lens.length) (hz : rd lens s ≠ 0) : ∃ L : Nat, rd lens s = L ∧ 1 ≤ L ∧ L ≤ 16 ∧ (codesM lens).getD s z124 = ⟨(L : Int), codeC lens L s⟩ ∧ 0 ≤ codeC lens L s ∧ codeC lens L s < 2 ^ L := by
 have hx := (lensOk_parts h).2.1 _ (List.getElem_mem hs)
 rw [← rd_nat lens s hs] at hx
 obtain ⟨L, hL⟩ : ∃ L : Nat, rd lens s = L := ⟨(rd lens s).toNat, by omega⟩
 refine ⟨L, hL, by omega, by omega, ?_, (codeC_in lens (lensOk_parts h).1 L s (by omega) (by omega) (by have := (lensOk_parts h).1; omega)).1, Int.lt_of_lt_of_le (code_lt lens L s (by omega) hs hL) (nextC_fits lens h L (by omega))⟩
 unfold codesM
 rw [if_pos h, codesP_at lens 17 0 s hs, if_pos ⟨by omega, .inl (by omega)⟩, hL, Int.toNat_natCast]
theorem codes_at_len (lens : List Int) (h : lensOkM lens = true) (t : Nat) (ht : t < lens.length) (l : Nat) (hl : 1 ≤ l) (hf : ((codesM lens).getD t z124).f0 = l) : rd lens t = l ∧ ((codesM lens).getD t z124).f1 = codeC lens l t := by
 by_cases hz : rd lens t = 0
 ·have : ((codesM lens).getD t z124).f0 = 0 := by
   unfold codesM
   rw [if_pos h, codesP_at lens 17 0 t ht, if_neg (by omega)]
   rfl
  omega
 ·obtain ⟨L, hL, h1, h2, e, _⟩ := code_field lens h t ht hz
  rw [e] at hf ⊢
  simp only [] at hf
  have : L = l := by omega
  subst this
  exact ⟨hL, rfl⟩
/-- a symbol's code is read back -/
theorem symM_back (lens : List Int) (h : lensOkM lens = true) (s : Nat) (hs : s < lens.length) (L : Nat) (hL : rd lens s = L) (h1 : 1 ≤ L) (h16 : L ≤ 16) (hc : (codesM lens).getD s z124 = ⟨(L : Int), codeC lens L s⟩) (h0 : 0 ≤ codeC lens L s) (hlt : codeC lens L s < 2 ^ L) (P Q : List Bool) :
  ∀ (d l : Nat), l + d = L → l < L → symM (codesM lens) (packM (P ++ (bitsN L (codeC lens L s) ++ Q))) (16 - l) (l : Int) (codeC lens L s / 2 ^ (L - l)) (P.length + l) = some (s, P.length + L) := by
 intro d
 induction d with
 | zero => intro l hl hlL; omega
 | succ d ih =>
  intro l hl hlL
  obtain ⟨B, hB⟩ : ∃ B, B = P ++ (bitsN L (codeC lens L s) ++ Q) := ⟨_, rfl⟩
  have hBl : P.length + L ≤ B.length := by rw [hB, List.length_append, List.length_append, bitsN_length]; omega
  have hlen := packM_len B
  have hcl := (codesM_length lens h).1
  rw [← hB] at ih ⊢
  rw [show 16 - l = (16 - (l + 1)) + 1 by omega]
  simp only [symM]
  rw [if_pos (by rw [hlen]; omega), bitAt_pack B _ (by omega)]
  have hv1 := valF_first P Q L (codeC lens L s) h0 hlt l (by omega)
  have hv2 := valF_first P Q L (codeC lens L s) h0 hlt (l + 1) (by omega)
  rw [← hB] at hv1 hv2
  have hx : 2 * (codeC lens L s / 2 ^ (L - l)) + bt1 B (P.length + l) = codeC lens L s / 2 ^ (L - (l + 1)) := by rw [← hv1, ← hv2]; rfl
  rw [hx, show ((l : Int) + 1) = ((l + 1 : Nat) : Int) by omega]
  by_cases hend : l + 1 = L
  ·have e0 : codeC lens L s / 2 ^ (L - (l + 1)) = codeC lens L s := by rw [show L - (l + 1) = 0 by omega]; simp
   rw [e0, hend]
   cases hf : firstS (codesM lens) (L : Int) (codeC lens L s) (codesM lens).length with
   | none =>
    exact absurd (And.intro (by rw [hc]) (by rw [hc])) (firstS_none hf s (by omega))
   | some t =>
    obtain ⟨t1, t2, t3⟩ := firstS_some hf
    have hst : t = s := by
     have hA := codesM_apart lens
     rcases Nat.lt_trichotomy t s with hts | hts | hts
     ·exact absurd (by rw [t3, hc]) (hA t s hts (by omega) (by rw [t2]; omega) (by rw [t2, hc]))
     ·exact hts
     ·exact absurd (by rw [t3, hc]) (hA s t hts (by omega) (by rw [hc]; simp only []; omega) (by rw [t2, hc]))
    simp only []
    rw [hst]
    congr 2
    omega
  ·have hnone : firstS (codesM lens) ((l + 1 : Nat) : Int) (codeC lens L s / 2 ^ (L - (l + 1))) (codesM lens).length = none := by
    cases hf : firstS (codesM lens) ((l + 1 : Nat) : Int) (codeC lens L s / 2 ^ (L - (l + 1))) (codesM lens).length with
    | none => rfl
    | some t =>
     exfalso
     obtain ⟨t1, t2, t3⟩ := firstS_some hf
     obtain ⟨r1, r2⟩ := codes_at_len lens h t (by omega) (l + 1) (by omega) t2
     have g1 := code_lt lens (l + 1) t (by omega) (by omega) r1
     have g2 := code_up lens (l + 1) L s (by omega)
     have g3 : nextC lens (l + 1) ≤ codeC lens L s / 2 ^ (L - (l + 1)) := Int.le_ediv_of_mul_le (Int.pow_pos (by decide)) g2
     rw [r2] at t3
     omega
   rw [hnone]
   simp only []
   exact ih (l + 1) (by omega) (by omega)
theorem readM_back (lens : List Int) (h : lensOkM lens = true) : ∀ (syms : List Int) (P : List Bool), syms.all (okS (codesM lens)) = true → readM (codesM lens) (packM (P ++ allBits (fldsC (codesM lens) syms))) syms.length P.length = some syms := by
 intro syms
 induction syms with
 | nil => intro P _; rfl
 | cons x syms ih =>
  intro P hall
  rw [List.all_cons, Bool.and_eq_true] at hall
  obtain ⟨hx, hall⟩ := hall
  have hcl := (codesM_length lens h).1
  unfold okS at hx
  simp only [Bool.and_eq_true, decide_eq_true_eq] at hx
  obtain ⟨⟨x0, x1⟩, x2⟩ := hx
  rw [codesM_f0 lens h x x0 (by omega)] at x2
  obtain ⟨s, rfl⟩ : ∃ s : Nat, x = s := ⟨x.toNat, by omega⟩
  obtain ⟨L, hL, h1, h2, hc, h3, h4⟩ := code_field lens h s (by omega) x2
  have er : rd_T124 (codesM lens) (s : Int) = ⟨(L : Int), codeC lens L s⟩ := by unfold rd_T124; rw [Int.toNat_natCast, hc]
  have eb : allBits (fldsC (codesM lens) ((s : Int) :: syms)) = bitsN L (codeC lens L s) ++ allBits (fldsC (codesM lens) syms) := by
   show bitsN (rd_T124 (codesM lens) (s : Int)).f0.toNat (rd_T124 (codesM lens) (s : Int)).f1 ++ _ = _
   rw [er]
   simp only [Int.toNat_natCast]
   rfl
  rw [eb]
  simp only [List.length_cons, readM]
  have hz : codeC lens L s / 2 ^ (L - 0) = 0 := Int.ediv_eq_zero_of_lt h3 (by simpa using h4)
  have hs := symM_back lens h s (by omega) L hL h1 h2 hc h3 h4 P (allBits (fldsC (codesM lens) syms)) L 0 (by omega) (by omega)
  rw [hz] at hs
  rw [show (16 - 0 : Nat) = 16 from rfl, Nat.add_zero, show ((0 : Nat) : Int) = 0 from rfl] at hs
  rw [hs]
  simp only []
  have := ih (P ++ bitsN L (codeC lens L s)) hall
  rw [List.length_append, bitsN_length, List.append_assoc] at this
  rw [this]
  rfl
theorem flds_ok (lens : List Int) (h : lensOkM lens = true) (syms : List Int) (hall : syms.all (okS (codesM lens)) = true) : (fldsC (codesM lens) syms).all fOk = true := by
 have hcl := (codesM_length lens h).1
 rw [List.all_eq_true] at hall ⊢
 intro f hf
 obtain ⟨x, hx, rfl⟩ := List.mem_map.1 hf
 have hx := hall x hx
 unfold okS at hx
 simp only [Bool.and_eq_true, decide_eq_true_eq] at hx
 obtain ⟨⟨x0, x1⟩, x2⟩ := hx
 rw [codesM_f0 lens h x x0 (by omega)] at x2
 obtain ⟨s, rfl⟩ : ∃ s : Nat, x = s := ⟨x.toNat, by omega⟩
 obtain ⟨L, hL, h1, h2, hc, h3, h4⟩ := code_field lens h s (by omega) x2
 have er : rd_T124 (codesM lens) (s : Int) = ⟨(L : Int), codeC lens L s⟩ := by unfold rd_T124; rw [Int.toNat_natCast, hc]
 rw [er]
 unfold fOk
 simp only [Bool.and_eq_true, decide_eq_true_eq, Int.toNat_natCast]
 omega
end Go.Proofs.Ytcjjmfpkhhdmlaa.G


namespace Go.Proofs.Ytcjjmfpkhhdmlaa.G
open Go.RowKit Go.Proofs.YtcjjmfpkhhdmlaaW.PrintWords Go.Proofs.YtcjjmfpkhhdmlaaW.PrintLast Go.Proofs.YtcjjmfpkhhdmlaaW.PrintMore
attribute [local go_sem] max2_int min2_int max_two min_two max_three min_three max_four min_four   -- for this text's walks alone
theorem codesBack_same (lens syms : List Int) (hlens : lens.length ≤ 300) (hs31 : syms.length ≤ 31) (hok : lensOkM lens = true) (hall : syms.all (okS (codesM lens)) = true) : impl_CodeRead.f lens (codeTextC (codesM lens) syms) (syms.length : Int) = some (syms, true) ∧ (codeTextC (codesM lens) syms).length ≤ 1000 := by
 have hf := flds_ok lens hok syms hall
 have hl := allBits_len (fldsC (codesM lens) syms) hf
 have hl2 := allBits_le (fldsC (codesM lens) syms) hf
 have hfl : (fldsC (codesM lens) syms).length = syms.length := by unfold fldsC; rw [List.length_map]
 have hfo : fldOk (fldsC (codesM lens) syms) = true := by
  unfold fldOk
  rw [hf, Bool.true_and, decide_eq_true_eq]
  omega
 have e : codeTextC (codesM lens) syms = packM (allBits (fldsC (codesM lens) syms)) := by rw [codeTextC_ok (by omega) hall, if_pos hfo]
 have hlen : (codeTextC (codesM lens) syms).length ≤ 1000 := by rw [e, packM_len]; omega
 refine ⟨?_, hlen⟩
 have hb := readM_back lens hok syms [] hall
 rw [List.nil_append, List.length_nil] at hb
 unfold impl_CodeRead.f
 rw [if_pos ⟨by rw [e, isB, List.all_eq_true]; intro x hx; have := packM_byte _ x hx; simp [this], by omega, by omega⟩]
 unfold codeReadM
 rw [if_pos ⟨hok, by omega, by omega⟩, e, Int.toNat_natCast, hb]
theorem codesBack_l0 (lens syms : List Int) (hlens : lens.length ≤ 300) (hs31 : syms.length ≤ 31) : ∀ (d i : Nat) (fl : Bool), i + d = syms.length → fl = (lensOkM lens && (syms.take i).all (okS (codesM lens))) → Ev (fun k => laws_FnCodesBack.l0 k lens syms (codeTextC (codesM lens) syms) fl (i : Int)) true := by
 intro d
 induction d with
 | zero =>
  intro i fl hi hfl
  obtain rfl : i = syms.length := by omega
  rw [List.take_length] at hfl
  refine Ev.step (fun _ => by rw [laws_FnCodesBack.l0]) (Ev.ng (by omega) ?_)
  cases hok : lensOkM lens with
  | false =>
   rw [hok, Bool.false_and] at hfl
   subst hfl
   refine Ev.ng (by simp) (Ev.eq (Ev.now _) ?_)
   have : codesM lens = [] := by unfold codesM; rw [hok]; rfl
   rw [this, codeTextC_none]
   rfl
  | true =>
   cases hall : syms.all (okS (codesM lens)) with
   | true =>
    rw [hok, hall] at hfl
    subst hfl
    obtain ⟨h1, _⟩ := codesBack_same lens syms hlens hs31 hok hall
    refine Ev.ip rfl (Ev.bind (Ev.c h1) (Ev.ip rfl (Ev.bind (laws_sameInts.same syms (by omega)) (Ev.now _))))
   | false =>
    rw [hok, hall] at hfl
    subst hfl
    refine Ev.ng (by simp) (Ev.eq (Ev.now _) ?_)
    obtain ⟨x, hx, h2⟩ := List.all_eq_false.1 hall
    rw [codeTextC_bad hx (by simpa using h2)]
    rfl
 | succ d ih =>
  intro i fl hi hfl
  have hlt : i < syms.length := by omega
  have hall2 : (syms.take (i + 1)).all (okS (codesM lens)) = ((syms.take i).all (okS (codesM lens)) && okS (codesM lens) syms[i]) := by rw [List.take_succ_eq_append_getElem hlt, List.all_append]; simp
  have hn := ih (i + 1)
  refine Ev.step (fun _ => by rw [laws_FnCodesBack.l0]) (Ev.ip (by omega) ?_)
  cases fl with
  | false =>
   refine Ev.ng (by simp) ?_
   rw [wrap_succ i (by omega)]
   exact hn false (by omega) (by rw [hall2, ← Bool.and_assoc, ← hfl]; rfl)
  | true =>
   have hfl2 := hfl.symm
   rw [Bool.and_eq_true] at hfl2
   obtain ⟨hok, hpre⟩ := hfl2
   have hcl := (codesM_length lens hok).1
   refine Ev.ip rfl (Ev.ip (by omega) ?_)
   rw [rd_nat syms i hlt, wrap_succ i (by omega)]
   rw [hall2, hok, hpre, Bool.true_and, Bool.true_and] at hn
   generalize syms[i] = s at hn ⊢
   by_cases h0 : s ≥ 0
   ·refine Ev.ip h0 ?_
    by_cases h1 : s < lens.length
    ·refine Ev.ip h1 (Ev.ip h0 ?_)
     refine hn _ (by omega) ?_
     have hx := (lensOk_parts hok).2.1 _ (List.getElem_mem (show s.toNat < lens.length by omega))
     have er : rd lens s = lens[s.toNat] := by have := rd_nat lens s.toNat (by omega); rwa [show ((s.toNat : Nat) : Int) = s by omega] at this
     rw [← er] at hx
     unfold okS
     rw [codesM_f0 lens hok s h0 h1, hcl, decide_eq_true (show 0 ≤ s from h0), decide_eq_true h1, Bool.true_and, Bool.true_and]
     rw [decide_eq_decide]
     omega
    ·refine Ev.ng h1 (hn false (by omega) ?_)
     unfold okS
     rw [hcl, decide_eq_false h1, Bool.and_false, Bool.false_and]
   ·refine Ev.ng h0 (hn false (by omega) ?_)
    unfold okS
    rw [decide_eq_false (show ¬ 0 ≤ s from h0), Bool.false_and, Bool.false_and]
theorem pure_FnCodesBack : ∀ (l0 : List Int), (l0.length ≤ 9223372036854775807 ∧ ∀ x0_ ∈ l0, (Lit.int .u8 x0_).wf = true) → ∃ k, laws_FnCodesBack.f k l0 = some true := by
 intro l0 h0
 have hb : ∀ x ∈ l0, 0 ≤ x ∧ x ≤ 255 := fun x hx => wf_u8 (h0.2 x hx)
 by_cases hbig : (l0.length : Int) > 1048576
 ·have : Ev (fun k => laws_FnCodesBack.f k l0) true := Ev.bind (Ev.c (show laws_big.f l0 = some true by unfold laws_big.f; rw [decide_eq_true hbig])) (Ev.ip rfl (Ev.now _))
  exact this.rounds
 ·obtain ⟨⟨lens, syms⟩, hd, h1, h2⟩ := spec_DrawCodeText.ev l0 hb (by omega)
  simp only [] at h1 h2
  have hT : (codeTextC (codesM lens) syms).length ≤ 1000 := by
   cases hok : lensOkM lens with
   | false =>
    have : codesM lens = [] := by unfold codesM; rw [hok]; rfl
    rw [this, codeTextC_none]
    exact Nat.zero_le _
   | true =>
    cases hall : syms.all (okS (codesM lens)) with
    | true => exact (codesBack_same lens syms h1 h2 hok hall).2
    | false =>
     obtain ⟨x, hx, h3⟩ := List.all_eq_false.1 hall
     rw [codeTextC_bad hx (by simpa using h3)]
     exact Nat.zero_le _
  have hi : impl_CodeText.f lens syms = some (codeTextC (codesM lens) syms) := if_pos ⟨by omega, by omega⟩
  have : Ev (fun k => laws_FnCodesBack.f k l0) true := by
   refine Ev.bind (Ev.c (show laws_big.f l0 = some false by unfold laws_big.f; rw [decide_eq_false hbig])) (Ev.ng (by simp) ?_)
   refine Ev.bind hd (Ev.bind (Ev.c hi) (Ev.bind (spec_CodeText.ev lens syms (by omega)) (Ev.bind (laws_sameBytes.same _ (by omega)) (Ev.ip rfl ?_))))
   refine Ev.bind (spec_LensOk.ev lens) ?_
   exact codesBack_l0 lens syms h1 h2 syms.length 0 _ (Nat.zero_add _) (by simp)
  exact this.rounds
theorem PureFnCodesBack : ∀ (l0 : List Int), (l0.length ≤ 9223372036854775807 ∧ ∀ x0_ ∈ l0, (Lit.int .u8 x0_).wf = true) → ∃ k, laws_FnCodesBack.f k l0 = some true :=
 pure_FnCodesBack
end Go.Proofs.Ytcjjmfpkhhdmlaa.G


namespace Go.Proofs.Ytcjjmfpkhhdmlaa.G
open Go.RowKit Go.Proofs.YtcjjmfpkhhdmlaaW.PrintWords Go.Proofs.YtcjjmfpkhhdmlaaW.PrintLast Go.Proofs.YtcjjmfpkhhdmlaaW.PrintMore
attribute [local go_sem] max2_int min2_int max_two min_two max_three min_three max_four min_four   -- for this text's walks alone
--import Derived.Deep.Slices
--import Derived.ChangeArms
/-- type t reads as kind d, with values that are wf -/
def Opens {α : Type} (P : Program) (t : TypeId) (d : Kd α) (wf : α → Prop) : Prop :=
 P.cellsOf t = d.sz ∧ ∀ {H : Type} {enc : TypeId × Value → H} {w : World} {base fuel : Nat} {cs : List Value} {x : DataW H × List MemPlace}, DataW.trod enc P w base (fun _ => true) true fuel t cs = some x → ∃ a, d.K w a cs ∧ wf a
theorem opens_int {P : Program} {t : TypeId} {k : IntKind} (hc : P.cellsOf t = 1) (ht : P.underlying t = some (.int k)) : Opens P t (Kd.int k) (fun n => (Lit.int k n).wf = true) :=
 ⟨hc, fun h => by
  obtain ⟨n, rfl, _, hw⟩ := DataW.trod_int ht h
  exact ⟨n, rfl, hw⟩⟩
theorem opens_slice {α : Type} {P : Program} {t e : TypeId} {d : Kd α} {wf : α → Prop} (hc : P.cellsOf t = 1) (ht : P.underlying t = some (.slice e)) (h0 : Opens P e d wf) : Opens P t (Kd.slice e d) (fun l => l.length ≤ 9223372036854775807 ∧ ∀ x ∈ l, wf x) :=
 ⟨hc, fun {H enc w base fuel cs x} h => by
  rcases Go.Deep.open_slice ht h with ⟨rfl, _⟩ | ⟨a, len, cap, m, n, D, Pl, rfl, hb, hl, hm, hmm, rfl, hx⟩
  ·exact ⟨[], ⟨none, 0, rfl, Nat.le_refl _, rfl, by simp, fun h => absurd h (by simp)⟩, by simp, by simp⟩
  ·simp only [if_true] at hmm
   subst hmm
   have build : ∀ n, n ≤ len → ∃ l : List α, l.length = n ∧ (∀ j p, l[j]? = some p → ∃ c, c.length = d.sz ∧ d.K w p c ∧ ∀ i u, c[i]? = some u → w.cell? (a.add (j * d.sz + i)) = some u) ∧ ∀ x ∈ l, wf x := by
    intro n
    induction n with
    | zero => exact fun _ => ⟨[], rfl, by simp, by simp⟩
    | succ n ih =>
     intro hn
     obtain ⟨l, hl1, hl2, hl3⟩ := ih (by omega)
     obtain ⟨cs', h1, h2⟩ := hx n (by omega)
     obtain ⟨b, hk, hw⟩ := h0.2 h2
     obtain ⟨_, hcl, hcell⟩ := World.cells?_some h1
     rw [h0.1] at hcl hcell
     refine ⟨l ++ [b], by simp [hl1], fun j p hj => ?_, fun x hx => ?_⟩
     ·rcases Nat.lt_or_ge j l.length with hlt | hge
      ·rw [List.getElem?_append_left hlt] at hj
       exact hl2 j p hj
      ·obtain rfl : j = l.length := by
        have := (List.getElem?_eq_some_iff.1 hj).1
        simp at this; omega
       obtain rfl : b = p := by simpa using hj
       refine ⟨cs', hcl, hk, fun i u hu => ?_⟩
       have hi : i < d.sz := by rw [← hcl]; exact (List.getElem?_eq_some_iff.1 hu).1
       have := hcell i hi
       rw [Go.Deep.add_add] at this
       rw [hl1, this, hu]
     ·rcases List.mem_append.1 hx with hx | hx
      ·exact hl3 x hx
      ·rw [List.mem_singleton.1 hx]; exact hw
   obtain ⟨l, hl1, hl2, hl3⟩ := build len (Nat.le_refl _)
   subst hl1
   have hm' : m ≤ 9223372036854775807 := hm
   exact ⟨l, ⟨some a, m, rfl, hl, rfl, by omega, fun _ => ⟨a, rfl, hl2⟩⟩, by omega, hl3⟩⟩
/-- a slice argument, opened -/
theorem open_slice_arg {α H : Type} {enc : TypeId × Value → H} {P : Program} {W : World} {base : Nat} {t e : TypeId} {d : Kd α} {wf : List α → Prop} (ho : Opens P t (Kd.slice e d) wf) {a : Option Addr} {len cap : Nat} {dd : DataW H} {ps : List MemPlace}
  (h : DataW.Trod enc P W base (fun _ => true) true t (.slice a len cap) dd ps) : ∃ l : List α, len = l.length ∧ l.length ≤ cap ∧ d.C W a l.length l ∧ wf l := by
 obtain ⟨fuel, hf⟩ := h
 obtain ⟨l, ⟨A, c, e1, hl, hC⟩, hw⟩ := ho.2 hf
 injection e1 with e1 _
 injection e1 with e1 e2 e3
 subst e1; subst e2; subst e3
 exact ⟨l, rfl, hl, hC, hw⟩
end Go.Proofs.Ytcjjmfpkhhdmlaa.G


namespace Go.Proofs.Ytcjjmfpkhhdmlaa.fnCodesBack
open Go.ChangeShapes Go.WideShapes Go.ChangeAt Go.RowKit Go.Proofs.Ytcjjmfpkhhdmlaa.G Go.Proofs.YtcjjmfpkhhdmlaaW.PrintWords
open Go.ChangeMaps (open_string shut_string)
theorem own : ownKnob Try.prog.godebug = none := by kernel_rfl
theorem laidOut : laidOutB Try.prog = true := by kernel_rfl
set_option maxRecDepth 100000 in
theorem lifted (os : Os) (started : os.Started) (H : Type) (enc : TypeId × Value → H) :
  ReturnsInHanded {} Try.checked os 8 .any (Rows.fnCodesBackSpec.pre6 enc Try.prog Try.f8 Rows.fnCodesBackRow.domain false) (Rows.fnCodesBackSpec.post enc Try.prog Try.f8 false true false false) := by
 refine returnsInHanded_of_change_sized (C := Try.checked) own started (by kernel_rfl) Try.func8
  (ChangeSpec.witness6 (enc := enc) (C := Try.checked) false ⟨#[], #[.slice none 0 0], []⟩ 8 (by kernel_rfl) (by kernel_rfl) (by kernel_rfl) (by kernel_rfl)) ?_
 intro W base args ds gs before hval0 hW hcnd hsz0 _
 have hval : ∀ (j : Nat) t v, Try.f8.params[j]? = some t → args[j]? = some v → Value.okWide Try.prog W .any base t v := hval0
 have hW' := hW
 obtain ⟨p, q, hA0, hV, rfl, hfz, hnd⟩ := hW
 have hA : DataW.TrodAll enc Try.prog W 0 (fun _ => true) true Try.f8.params.toList args.toList ds p := hA0
 rw [Try.params8] at hA hval
 obtain ⟨v0, vs0, d0, ds0, p0, q0, hargs, rfl, rfl, h0, r0⟩ := trodAll_cons hA
 obtain ⟨rfl, rfl, rfl⟩ := trodAll_nil r0
 obtain rfl : args = #[v0] := by cases args; simp_all
 obtain ⟨rfl, rfl⟩ := trodVars_none hV
 obtain ⟨a0, len0, cap0, rfl⟩ := okWide_slice Try.underlying23 (hval 0 23 v0 rfl rfl)
 have k0 := h0
 have lt0 : ∀ x ∈ p0, x.block < W.heap.size := by obtain ⟨m, hm⟩ := k0; exact DataW.trod_lt m _ _ _ hm
 obtain ⟨l0, rfl, hl0, hC0, w0⟩ := open_slice_arg (opens_slice (by kernel_rfl) Try.underlying23 (opens_int (by kernel_rfl) Try.underlying5)) h0
 clear hA0 hval0 hsz0
 obtain ⟨k, hk⟩ := PureFnCodesBack l0 w0
 refine (laws_FnCodesBack.calls k _ _ l0 true W hC0 hl0 hk).mono fun e W' ⟨he, bel0⟩ => ?_
 have bel : Below W.heap.size W W' := bel0
 subst he
 exact ⟨_, rfl, _, _, _, [], _, [], hW', trodAll_mk1 (shut_bool Try.underlying4 _), (trodAll_cons_mk (Below.trod laidOut (by kernel_rfl) (of_decide_eq_true (by kernel_rfl)) k0 bel lt0) trodAll_mk0), rfl, bel.frame _, fun h => by cases h⟩
theorem over : Rows.fnCodesBackRow.holds Try.pinned (OpenSpec.ofChange Rows.fnCodesBackSpec) :=
 OpenClaim.holds_of_wide 8 Try.f8 rfl rfl rfl rfl rfl rfl rfl ⟨rfl, rfl, rfl, rfl, rfl⟩ rfl rfl rfl rfl rfl (by kernel_rfl) Try.func8 (by kernel_rfl)
  (of_decide_eq_true (by kernel_rfl)) (by unfold Func.isWrapper; first | (rw [if_pos (by decide +kernel)]; kernel_rfl) | (rw [if_neg (by decide +kernel)]; exact ⟨rfl, rfl⟩))
  (fun os started H enc _ => lifted os started H enc)
theorem proved : Rows.FnCodesBackSaid := over
#print axioms proved
end Go.Proofs.Ytcjjmfpkhhdmlaa.fnCodesBack
namespace Go.Proofs.Ytcjjmfpkhhdmlaa
/-- The row, under a short name, for the claim. -/
theorem fnCodesBack_holds : Rows.FnCodesBackSaid := fnCodesBack.proved
end Go.Proofs.Ytcjjmfpkhhdmlaa

