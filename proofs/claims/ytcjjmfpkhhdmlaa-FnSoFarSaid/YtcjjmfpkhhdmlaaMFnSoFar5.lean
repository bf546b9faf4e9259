/- FnSoFar (P20): the segments that are whole in the beginning of a stream are the first ones of the stream, and all of them at its end; for bytes drawn of any bytes, and a beginning drawn of any others. -/
import Derived.Deep.Slices
import Derived.ChangeArms
import Derived.Test.YtcjjmfpkhhdmlaaRows
import Derived.WalkKit
import Derived.ProofKit
import Derived.OpenShut
import Derived.ShutString
import Derived.ChangeOld
import Derived.Below
import Derived.SizedLaws
import Derived.Test.YtcjjmfpkhhdmlaaMFnSoFar4
set_option linter.unusedVariables false
set_option linter.unusedSimpArgs false
namespace Go.Proofs.Ytcjjmfpkhhdmlaa.G
open Go.RowKit Go.Proofs.YtcjjmfpkhhdmlaaW.PrintWords Go.Proofs.YtcjjmfpkhhdmlaaW.PrintLast Go.Proofs.YtcjjmfpkhhdmlaaW.PrintMore
attribute [local go_sem] max2_int min2_int max_two min_two max_three min_three max_four min_four   -- for this text's walks alone
mutual
def laws_pick.j0 : Nat → List Int → Int → Int → Bool → Option (Int)
 | 0, _, _, _, _ => none
 | k + 1, x0, x1, x2, x15 => if x15 = true then (some 0) else (laws_pick.l0 k x0 x1 x2 0 0)
def laws_pick.l0 : Nat → List Int → Int → Int → Int → Int → Option (Int)
 | 0, _, _, _, _, _ => none
 | k + 1, x0, x1, x2, x7, x8 => if x8 < 3 then (if (x0.length : Int) = 0 then (none) else (if 0 ≤ (Int.tmod (wrap64 (x1 + x8)) (x0.length : Int)) then (if (Int.tmod (wrap64 (x1 + x8)) (x0.length : Int)) < (x0.length : Int) then (laws_pick.l0 k x0 x1 x2 (wrap64 ((wrap64 (31 * x7)) + (wrap64 (rd x0 (Int.tmod (wrap64 (x1 + x8)) (x0.length : Int)))))) (wrap64 (x8 + 1))) else (none)) else (none))) else (if x2 = 0 then (none) else (some (Int.tmod (wrap64 (x7 + x1)) x2)))
end
def laws_pick.f (k : Nat) (l0 : List Int) (a1 : Int) (a2 : Int) : Option (Int) := if (l0.length : Int) = 0 then (laws_pick.j0 k l0 a1 a2 true) else (laws_pick.j0 k l0 a1 a2 (decide (a2 < 2)))
set_option maxHeartbeats 8000000 in
set_option maxRecDepth 100000 in
theorem laws_pick.calls (k : Nat) (A0 : Option Addr) (c0 : Nat) (l0 : List Int) (a1 : Int) (a2 : Int) (r : Int) (w : World) (hr0 : Kd.C (Kd.int .u8) w A0 l0.length l0) (hc0 : l0.length ≤ c0) (h : laws_pick.f k l0 a1 a2 = some r) :
  Calls Try.prog 76 #[.slice A0 l0.length c0, .int .i64 a1, .int .i64 a2] w fun e w' => e = .returned (.int .i64 r) ∧ Drawn0 w w' := by
 have HR0 := zA hr0
 have HC0 := zA hc0
 clear hr0 hc0
 have H : (if (l0.length : Int) = 0 then (laws_pick.j0 k l0 a1 a2 true) else (laws_pick.j0 k l0 a1 a2 (decide (a2 < 2)))) = some r := h
 clear h
 have HC4 := zA H
 clear H
 go_enter Try.func76, Try.ntmps76
 go_upto_region 1 with (fail)
 go_cut [15] (fun v15 wc => ∃ (kq : Nat) (x15_3 : Bool), v15 = .bool x15_3 ∧ Aside0 (laws_pick.j0 kq l0 a1 a2 x15_3 = some r) ∧ Aside0 (kq ≤ k) ∧ Drawn0 w wc)
 case first =>
  have H := HC4.out
  clear HC4
  by_cases c5 : (l0.length : Int) = 0
  ·rw [if_pos c5] at H
   have c5b0 : ((l0.length : Int) == 0) = true := beq_iff_eq.mpr c5
   have c5b1 : ((l0.length : Int) != 0) = false := bne_eq_false_iff_eq.mpr c5
   clear c5
   (first | rw [c5b0] | (simp only [i64_w, i32_w]; rw [c5b0]) | skip)
   have H' := zA H
   clear H
   go_wp2
   go_meet
   case rel => exact ⟨_, (true), (by first | rfl | (simp; done) | (simp [*]; done)), H', ⟨by first | omega | exact Nat.le_refl _⟩, by repeat (first | exact Drawn0.refl _ | apply Drawn0.step)⟩
  ·rw [if_neg c5] at H
   have c5b0 : ((l0.length : Int) == 0) = false := beq_eq_false_iff_ne.mpr c5
   have c5b1 : ((l0.length : Int) != 0) = true := bne_iff_ne.mpr c5
   have c5b2 : ¬ (l0 = []) := fun h_ => c5 (by rw [h_]; rfl)
   (first | rw [c5b0] | (simp only [i64_w, i32_w]; rw [c5b0]) | skip)
   have H' := zA H
   clear H
   go_wp2
   go_meet
   case rel => exact ⟨_, (decide (a2 < 2)), (by first | rfl | (simp; done) | (simp [*]; done)), H', ⟨by first | omega | exact Nat.le_refl _⟩, by repeat (first | exact Drawn0.refl _ | apply Drawn0.step)⟩
 case rest =>
  clear HC4
  try clear p2
  try clear c5
  try clear c5b0
  try clear c5b1
  try clear c5b2
  obtain ⟨kq, x15_3, rfl, HA, HJ3, ⟨mc3, rfl⟩⟩ := hcut
  cases kq with
  | zero => exact absurd HA.out (by simp [laws_pick.j0])
  | succ kj3 =>
   have H := HA.out
   clear HA
   simp only [laws_pick.j0] at H
   by_cases c6 : x15_3 = true
   ·subst c6
    have H1 : (some 0) = some r := by rw [if_pos rfl] at H; exact H
    clear H
    have H := H1
    clear H1
    obtain rfl := Option.some.inj H
    go_wp2
    go_ret
    exact ⟨by first | rfl | (simp; done) | (simp [*]; done), by repeat (first | exact Drawn0.refl _ | apply Drawn0.step)⟩
   ·replace c6 := Bool.eq_false_iff.mpr c6
    subst c6
    have H1 : (laws_pick.l0 kj3 l0 a1 a2 0 0) = some r := by rw [if_neg (show ¬ (false = true) by decide)] at H; exact H
    clear H
    have H := H1
    clear H1
    have H' := zA H
    clear H
    go_wp2
    go_loopg [7, 8] kj3 (fun kq v7 v8 w' => ∃ (x7_2 : Int) (x8_2 : Int), v7 = .int .i64 x7_2 ∧ v8 = .int .i64 x8_2 ∧ Aside0 (laws_pick.l0 kq l0 a1 a2 x7_2 x8_2 = some r) ∧ Aside0 (kq ≤ kj3) ∧ Drawn0 w w')
    case atStart => exact ⟨(0), (0), (by first | rfl | (simp; done) | (simp [*]; done)), (by first | rfl | (simp; done) | (simp [*]; done)), H', ⟨Nat.le_refl _⟩, by repeat (first | exact Drawn0.refl _ | apply Drawn0.step)⟩
    case round =>
     clear H'
     try clear p2
     try clear c3
     try clear c5
     try clear c5b0
     try clear c5b1
     try clear c5b2
     try clear c6
     try clear p2
     obtain ⟨x7_2, x8_2, rfl, rfl, HA, HK2, ⟨m2, rfl⟩⟩ := hrel
     cases gk with
     | zero => exact absurd HA.out (by simp [laws_pick.l0])
     | succ k2 =>
      have H := HA.out
      clear HA
      simp only [laws_pick.l0] at H
      by_cases c7 : x8_2 < 3
      ·rw [if_pos c7] at H
       have c7b0 : decide (x8_2 < 3) = true := zT c7
       clear c7
       by_cases c8 : (l0.length : Int) = 0
       ·rw [if_pos c8] at H
        exact absurd H (by simp)
       ·rw [if_neg c8] at H
        have c8b0 : ((l0.length : Int) == 0) = false := beq_eq_false_iff_ne.mpr c8
        have c8b1 : ((l0.length : Int) != 0) = true := bne_iff_ne.mpr c8
        have c8b2 : ¬ (l0 = []) := fun h_ => c8 (by rw [h_]; rfl)
        obtain ⟨ji9, hji9⟩ : ∃ j_ : Int, (Int.tmod (wrap64 (a1 + x8_2)) (l0.length : Int)) = j_ := ⟨_, rfl⟩
        replace H : (if 0 ≤ (ji9) then (if (ji9) < (l0.length : Int) then (laws_pick.l0 k2 l0 a1 a2 (wrap64 ((wrap64 (31 * x7_2)) + (wrap64 (rd l0 (ji9))))) (wrap64 (x8_2 + 1))) else (none)) else (none)) = some r := by first | (rw [hji9] at H; exact H) | (simp only [hji9] at H ⊢; exact H)
        by_cases c10 : 0 ≤ (ji9)
        ·rw [if_pos c10] at H
         have c10b0 : decide (0 ≤ (ji9)) = true := zT c10
         clear c10
         by_cases c11 : (ji9) < (l0.length : Int)
         ·rw [if_pos c11] at H
          have c11b0 : decide ((ji9) < (l0.length : Int)) = true := zT c11
          clear c11
          have H' := zA H
          clear H
          have p1439 : 0 ≤ ((ji9) : Int) := zI (by first | (with_reducible assumption) | assumption)
          have q1439 : (ji9) < (l0.length : Int) := zI (by first | (with_reducible assumption) | assumption)
          obtain ⟨ad1439, e1439, hx1439_0⟩ := Kd.at_int HR0.out (ji9) p1439 q1439
          cases e1439
          replace p1439 := eq_true p1439
          replace q1439 := eq_true q1439
          go_wp2
          go_roundg k2
          case measure => have := HJ3.out; have := HK2.out; omega
          case rel => exact ⟨(wrap64 ((wrap64 (31 * x7_2)) + (wrap64 (rd l0 (ji9))))), (wrap64 (x8_2 + 1)), (by first | rfl | (simp; done) | (simp only [← hji9] <;> (first | rfl | simp)) | (simp [*]; done)), (by first | rfl | (simp; done) | (simp [*]; done)), H', ⟨by have := HJ3.out; have := HK2.out; omega⟩, by repeat (first | exact Drawn0.refl _ | apply Drawn0.step)⟩
         ·rw [if_neg c11] at H
          exact absurd H (by simp)
        ·rw [if_neg c10] at H
         exact absurd H (by simp)
      ·rw [if_neg c7] at H
       have c7b0 : decide (x8_2 < 3) = false := decide_eq_false c7
       clear c7
       by_cases c12 : a2 = 0
       ·rw [if_pos c12] at H
        exact absurd H (by simp)
       ·rw [if_neg c12] at H
        have c12b0 : (a2 == 0) = false := beq_eq_false_iff_ne.mpr c12
        have c12b1 : (a2 != 0) = true := bne_iff_ne.mpr c12
        obtain rfl := Option.some.inj H
        go_wp2
        go_ret
        exact ⟨by first | rfl | (simp; done) | (simp [*]; done), by repeat (first | exact Drawn0.refl _ | apply Drawn0.step)⟩
theorem laws_pick.l0_ev (x : List Int) (hb : ∀ y ∈ x, 0 ≤ y ∧ y ≤ 255) (h0 : 0 < x.length) (hx : x.length ≤ 1048576) (n : Int) (hn : 1 ≤ n) (hn2 : n ≤ 1000000000) : ∀ (d i : Nat) (v : Int), i + d = 3 → 0 ≤ v → v ≤ 256 * 32 ^ i → EvP (fun k => laws_pick.l0 k x 0 n v (i : Int)) (fun r => 0 ≤ r ∧ r < n) := by
 intro d
 induction d with
 | zero =>
  intro i v hi hv hv2
  obtain rfl : i = 3 := by omega
  refine EvP.step (fun _ => by rw [laws_pick.l0]) ?_
  refine EvP.ng (by omega) ?_
  refine EvP.ng (by omega) ?_
  refine EvP.now ?_
  rw [Int.add_zero, wrap_in v (by omega) (by omega), Int.tmod_eq_emod_of_nonneg hv]
  exact ⟨Int.emod_nonneg _ (by omega), Int.emod_lt_of_pos _ (by omega)⟩
 | succ d ih =>
  intro i v hi hv hv2
  have hp : (32 : Int) ^ i ≤ 32 ^ 2 := by
   have : i = 0 ∨ i = 1 ∨ i = 2 := by omega
   rcases this with rfl | rfl | rfl <;> decide
  have hq : (32 : Int) ^ (i + 1) = 32 ^ i * 32 := Int.pow_succ _ _
  have hp1 : (1 : Int) ≤ 32 ^ i := Int.le_of_lt_add_one (by have : (0 : Int) < 32 ^ i := Int.pow_pos (by decide); omega)
  refine EvP.step (fun _ => by rw [laws_pick.l0]) ?_
  refine EvP.ip (by omega) ?_
  refine EvP.ng (by omega) ?_
  rw [Int.zero_add, wrap_in (i : Int) (by omega) (by omega), Int.tmod_eq_emod_of_nonneg (by omega)]
  have m0 : 0 ≤ (i : Int) % (x.length : Int) := Int.emod_nonneg _ (by omega)
  have m1 : (i : Int) % (x.length : Int) < x.length := Int.emod_lt_of_pos _ (by omega)
  generalize (i : Int) % (x.length : Int) = j at m0 m1 ⊢
  refine EvP.ip m0 ?_
  refine EvP.ip m1 ?_
  obtain ⟨q, rfl⟩ : ∃ q : Nat, j = q := ⟨j.toNat, by omega⟩
  have hby := hb _ (List.getElem_mem (show q < x.length by omega))
  rw [rd_nat x q (by omega), wrap_in (31 * v) (by omega) (by omega), wrap_in (x[q]) (by omega) (by omega), wrap_in (31 * v + x[q]) (by omega) (by omega), wrap_succ i (by omega)]
  exact ih (i + 1) _ (by omega) (by omega) (by omega)
theorem laws_pick.ev (x : List Int) (hb : ∀ y ∈ x, 0 ≤ y ∧ y ≤ 255) (hx : x.length ≤ 1048576) (n : Int) (hn : 1 ≤ n) (hn2 : n ≤ 1000000000) : EvP (fun k => laws_pick.f k x 0 n) (fun r => 0 ≤ r ∧ r < n) := by
 unfold laws_pick.f
 refine EvP.either (fun _ => EvP.step (fun _ => by rw [laws_pick.j0]) (EvP.ip rfl (EvP.now ⟨Int.le_refl _, by omega⟩))) (fun hz => ?_)
 refine EvP.step (fun _ => by rw [laws_pick.j0]) ?_
 refine EvP.either (fun _ => EvP.now ⟨Int.le_refl _, by omega⟩) (fun _ => ?_)
 exact laws_pick.l0_ev x hb (by omega) hx n hn hn2 3 0 0 (by omega) (Int.le_refl _) (by decide)
end Go.Proofs.Ytcjjmfpkhhdmlaa.G


namespace Go.Proofs.Ytcjjmfpkhhdmlaa.G
open Go.RowKit Go.Proofs.YtcjjmfpkhhdmlaaW.PrintWords Go.Proofs.YtcjjmfpkhhdmlaaW.PrintLast Go.Proofs.YtcjjmfpkhhdmlaaW.PrintMore
attribute [local go_sem] max2_int min2_int max_two min_two max_three min_three max_four min_four   -- for this text's walks alone
theorem eqA65 (d : Nat) (w : World) (x0 y0 : Int) (x1 y1 : Int) :
  (Op.equalIn (d + 2) 65 (.agg #[.int .i64 x0, .int .i64 x1]) (.agg #[.int .i64 y0, .int .i64 y1])).run Try.prog w = .ok (x0 == y0 && (x1 == y1)) w := by
 refine eqA_of Try.underlying65 (by kernel_rfl) ?_
 refine eqf_cons (by rfl) (by go_simp; rfl) (by go_simp; rfl) (by go_simp) ?_
 exact eqf_last (by rfl) (by go_simp; rfl) (by go_simp; rfl) (by go_simp)
end Go.Proofs.Ytcjjmfpkhhdmlaa.G


namespace Go.Proofs.Ytcjjmfpkhhdmlaa.G
open Go.RowKit Go.Proofs.YtcjjmfpkhhdmlaaW.PrintWords Go.Proofs.YtcjjmfpkhhdmlaaW.PrintLast Go.Proofs.YtcjjmfpkhhdmlaaW.PrintMore
attribute [local go_sem] max2_int min2_int max_two min_two max_three min_three max_four min_four   -- for this text's walks alone
attribute [local go_sem high] eqA65
mutual
def laws_FnSoFar.j0 : Nat → List Int → List Int → Bool → Option (Bool)
 | 0, _, _, _ => none
 | k + 1, x0, x1, x22 => if x22 = true then (some true) else ((spec_DrawReadSegs.f k x0).bind fun t1442 => ((impl_SegsSoFar.f t1442).bind fun bt1445 => ((spec_SegsSoFar.f k t1442).bind fun bt1452 => ((laws_sameSegs.f k bt1445.1 bt1452.1).bind fun t1459 => (if t1459 = true then (if (bt1445.2.1 != bt1452.2.1) = true then (laws_FnSoFar.j1 k x1 t1442 bt1445.1 bt1445.2.1 true bt1445.2.2.1 bt1445.2.2.2) else (laws_FnSoFar.j1 k x1 t1442 bt1445.1 bt1445.2.1 (!(bt1445.2.2.1 == bt1452.2.2.1) || (!(bt1445.2.2.2 == bt1452.2.2.2))) bt1445.2.2.1 bt1445.2.2.2)) else (laws_FnSoFar.j1 k x1 t1442 bt1445.1 bt1445.2.1 true bt1445.2.2.1 bt1445.2.2.2))))))
def laws_FnSoFar.j1 : Nat → List Int → List Int → List (S131) → Bool → Bool → Int → Int → Option (Bool)
 | 0, _, _, _, _, _, _, _ => none
 | k + 1, x1, x5, x6, x7, x50, x1452000, x1452001 => if x50 = true then (some false) else ((spec_ReadSegs.f k x5).bind fun bt1460 => (if bt1460.2.1 = 0 then (if x7 = true then (if x1452000 = 0 then ((laws_sameSegs.f k x6 bt1460.1).bind fun t1466 => (laws_FnSoFar.j2 k x1 x5 bt1460.1 (!t1466))) else (laws_FnSoFar.j2 k x1 x5 bt1460.1 true)) else (laws_FnSoFar.j2 k x1 x5 bt1460.1 true)) else (if x1452000 = 0 then (some (!x7)) else (some true))))
def laws_FnSoFar.j2 : Nat → List Int → List Int → List (S131) → Bool → Option (Bool)
 | 0, _, _, _, _ => none
 | k + 1, x1, x5, x12, x78 => if x78 = true then (some false) else ((laws_pick.f k x1 0 (x5.length : Int)).bind fun t1467 => (if 0 ≤ t1467 then (if t1467 ≤ (x5.length : Int) then ((impl_SegsSoFar.f (x5.take (t1467 : Int).toNat)).bind fun bt1472 => (if bt1472.2.1 = true then (some false) else (if bt1472.2.2.1 = 0 then (if (bt1472.1.length : Int) ≤ (x12.length : Int) then (if 0 ≤ (bt1472.1.length : Int) then ((laws_sameSegs.f k bt1472.1 (x12.take ((bt1472.1.length : Int) : Int).toNat)).bind fun t1483 => (some t1483)) else (none)) else (some false)) else (some false)))) else (none)) else (none)))
end
def laws_FnSoFar.f (k : Nat) (l0 : List Int) (l1 : List Int) : Option (Bool) := (laws_big.f l0).bind fun t1440 => (if t1440 = true then (laws_FnSoFar.j0 k l0 l1 true) else ((laws_big.f l1).bind fun t1441 => (laws_FnSoFar.j0 k l0 l1 t1441)))
set_option maxHeartbeats 8000000 in
set_option maxRecDepth 100000 in
theorem laws_FnSoFar.calls (k : Nat) (A0 : Option Addr) (c0 : Nat) (l0 : List Int) (A1 : Option Addr) (c1 : Nat) (l1 : List Int) (r : Bool) (w : World) (hr0 : Kd.C (Kd.int .u8) w A0 l0.length l0) (hc0 : l0.length ≤ c0) (hr1 : Kd.C (Kd.int .u8) w A1 l1.length l1) (hc1 : l1.length ≤ c1) (h : laws_FnSoFar.f k l0 l1 = some r) :
  Calls Try.prog 14 #[.slice A0 l0.length c0, .slice A1 l1.length c1] w fun e w' => e = .returned (.bool r) ∧ Below w.heap.size w w' := by
 have hu65 := Try.underlying65
 have HR0 := zA hr0
 have HC0 := zA hc0
 clear hr0 hc0
 have HR1 := zA hr1
 have HC1 := zA hc1
 clear hr1 hc1
 have HB := zA (Below.refl w.heap.size w)
 have H : ((laws_big.f l0).bind fun t1440 => (if t1440 = true then (laws_FnSoFar.j0 k l0 l1 true) else ((laws_big.f l1).bind fun t1441 => (laws_FnSoFar.j0 k l0 l1 t1441)))) = some r := h
 clear h
 have HC3 := zA H
 clear H
 go_enter Try.func14, Try.ntmps14
 go_upto_region 1 with (fail)
 go_cut [22] (fun v22 wc => ∃ (kq : Nat) (x22_2 : Bool), v22 = .bool x22_2 ∧ Aside0 (laws_FnSoFar.j0 kq l0 l1 x22_2 = some r) ∧ Aside0 (kq ≤ k) ∧ Aside0 (Below w.heap.size w wc))
 case first =>
  have H := HC3.out
  clear HC3
  replace H := Option.bind_eq_some_iff.mp H
  obtain ⟨t1440, A40, H⟩ := H
  replace H : (if t1440 = true then (laws_FnSoFar.j0 k l0 l1 true) else ((laws_big.f l1).bind fun t1441 => (laws_FnSoFar.j0 k l0 l1 t1441))) = some r := H
  have A4 := zA A40
  clear A40
  by_cases c5 : t1440 = true
  ·subst c5
   have H1 : (laws_FnSoFar.j0 k l0 l1 true) = some r := by rw [if_pos rfl] at H; exact H
   clear H
   have H := H1
   clear H1
   have H' := zA H
   clear H
   go_wp2_with (first | ((with_reducible refine gate_callee (f := 24) rfl ?_); refine goesL_ (some 18) rfl rfl Try.func24 (by kernel_rfl) rfl #[.slice A0 l0.length c0] rfl (by (try simp only [zU, zV, zW]); first | done | rfl | (simp only [zR, zQ]; rfl)) ?_; (with_reducible refine (laws_big.calls _ _ l0 true _ ?side1 ?side2 A4.out).mono ?_); (case side1 => repeat (first | exact (Kd.C_below HR0.out HB.out) | (with_reducible refine yN ?_ _) | (with_reducible refine yL ?_ _) | (with_reducible refine yM ?_))); (case side2 => exact HC0.out); rintro e w' ⟨rfl, ⟨nd, rfl⟩⟩; refine ⟨_, rfl, ?_⟩))
   go_meet
   case rel => exact ⟨_, (true), (by first | rfl | (simp; done) | (simp [*]; done)), H', ⟨by first | omega | exact Nat.le_refl _⟩, ⟨by repeat (first | (with_reducible first | exact HB.out | apply zC | apply zB | apply zF) | exact HB.out)⟩⟩
  ·replace c5 := Bool.eq_false_iff.mpr c5
   subst c5
   have H1 : ((laws_big.f l1).bind fun t1441 => (laws_FnSoFar.j0 k l0 l1 t1441)) = some r := by rw [if_neg (show ¬ (false = true) by decide)] at H; exact H
   clear H
   have H := H1
   clear H1
   replace H := Option.bind_eq_some_iff.mp H
   obtain ⟨t1441, A60, H⟩ := H
   replace H : (laws_FnSoFar.j0 k l0 l1 t1441) = some r := H
   have A6 := zA A60
   clear A60
   have H' := zA H
   clear H
   go_wp2_with (first | ((with_reducible refine gate_callee (f := 24) rfl ?_); refine goesL_ (some 18) rfl rfl Try.func24 (by kernel_rfl) rfl #[.slice A0 l0.length c0] rfl (by (try simp only [zU, zV, zW]); first | done | rfl | (simp only [zR, zQ]; rfl)) ?_; (with_reducible refine (laws_big.calls _ _ l0 false _ ?side1 ?side2 A4.out).mono ?_); (case side1 => repeat (first | exact (Kd.C_below HR0.out HB.out) | (with_reducible refine yN ?_ _) | (with_reducible refine yL ?_ _) | (with_reducible refine yM ?_))); (case side2 => exact HC0.out); rintro e w' ⟨rfl, ⟨nd, rfl⟩⟩; refine ⟨_, rfl, ?_⟩) | (go_at_call 24; (with_reducible refine (laws_big.calls _ _ l1 t1441 _ ?side1 ?side2 A6.out).mono ?_); (case side1 => repeat (first | exact (Kd.C_below HR1.out (by repeat (first | (with_reducible first | exact HB.out | apply zC | apply zB | apply zF) | exact HB.out))) | (with_reducible refine yN ?_ _) | (with_reducible refine yL ?_ _) | (with_reducible refine yM ?_))); (case side2 => exact HC1.out); rintro e w' ⟨rfl, ⟨nd, rfl⟩⟩))
   go_meet
   case rel => exact ⟨_, (t1441), (by first | rfl | (simp; done) | (simp [*]; done)), H', ⟨by first | omega | exact Nat.le_refl _⟩, ⟨by repeat (first | (with_reducible first | exact HB.out | apply zC | apply zB | apply zF) | exact HB.out)⟩⟩
 case rest =>
  clear HC3
  try clear c1
  try clear c2
  try clear p2
  try clear c5
  obtain ⟨kq, x22_2, rfl, HA, HJ2, HB⟩ := hcut
  cases kq with
  | zero => exact absurd HA.out (by simp [laws_FnSoFar.j0])
  | succ kj2 =>
   have H := HA.out
   clear HA
   simp only [laws_FnSoFar.j0] at H
   by_cases c7 : x22_2 = true
   ·subst c7
    have H1 : (some true) = some r := by rw [if_pos rfl] at H; exact H
    clear H
    have H := H1
    clear H1
    obtain rfl := Option.some.inj H
    go_wp2
    go_ret
    exact ⟨by first | rfl | (simp [errW_none, errW_some] <;> rfl) | (simp [*, errW_none, errW_some] <;> rfl), by repeat (first | (with_reducible first | exact HB.out | apply zC | apply zB | apply zF) | exact HB.out)⟩
   ·replace c7 := Bool.eq_false_iff.mpr c7
    subst c7
    have H1 : ((spec_DrawReadSegs.f kj2 l0).bind fun t1442 => ((impl_SegsSoFar.f t1442).bind fun bt1445 => ((spec_SegsSoFar.f kj2 t1442).bind fun bt1452 => ((laws_sameSegs.f kj2 bt1445.1 bt1452.1).bind fun t1459 => (if t1459 = true then (if (bt1445.2.1 != bt1452.2.1) = true then (laws_FnSoFar.j1 kj2 l1 t1442 bt1445.1 bt1445.2.1 true bt1445.2.2.1 bt1445.2.2.2) else (laws_FnSoFar.j1 kj2 l1 t1442 bt1445.1 bt1445.2.1 (!(bt1445.2.2.1 == bt1452.2.2.1) || (!(bt1445.2.2.2 == bt1452.2.2.2))) bt1445.2.2.1 bt1445.2.2.2)) else (laws_FnSoFar.j1 kj2 l1 t1442 bt1445.1 bt1445.2.1 true bt1445.2.2.1 bt1445.2.2.2)))))) = some r := by rw [if_neg (show ¬ (false = true) by decide)] at H; exact H
    clear H
    have H := H1
    clear H1
    replace H := Option.bind_eq_some_iff.mp H
    obtain ⟨t1442, A80, H⟩ := H
    replace H : ((impl_SegsSoFar.f t1442).bind fun bt1445 => ((spec_SegsSoFar.f kj2 t1442).bind fun bt1452 => ((laws_sameSegs.f kj2 bt1445.1 bt1452.1).bind fun t1459 => (if t1459 = true then (if (bt1445.2.1 != bt1452.2.1) = true then (laws_FnSoFar.j1 kj2 l1 t1442 bt1445.1 bt1445.2.1 true bt1445.2.2.1 bt1445.2.2.2) else (laws_FnSoFar.j1 kj2 l1 t1442 bt1445.1 bt1445.2.1 (!(bt1445.2.2.1 == bt1452.2.2.1) || (!(bt1445.2.2.2 == bt1452.2.2.2))) bt1445.2.2.1 bt1445.2.2.2)) else (laws_FnSoFar.j1 kj2 l1 t1442 bt1445.1 bt1445.2.1 true bt1445.2.2.1 bt1445.2.2.2))))) = some r := H
    have A8 := zA A80
    clear A80
    replace H := Option.bind_eq_some_iff.mp H
    obtain ⟨⟨t1445, t1448, t1449, t1450⟩, A90, H⟩ := H
    replace H : ((spec_SegsSoFar.f kj2 t1442).bind fun bt1452 => ((laws_sameSegs.f kj2 t1445 bt1452.1).bind fun t1459 => (if t1459 = true then (if (t1448 != bt1452.2.1) = true then (laws_FnSoFar.j1 kj2 l1 t1442 t1445 t1448 true t1449 t1450) else (laws_FnSoFar.j1 kj2 l1 t1442 t1445 t1448 (!(t1449 == bt1452.2.2.1) || (!(t1450 == bt1452.2.2.2))) t1449 t1450)) else (laws_FnSoFar.j1 kj2 l1 t1442 t1445 t1448 true t1449 t1450)))) = some r := H
    have A9 := zA A90
    clear A90
    replace H := Option.bind_eq_some_iff.mp H
    obtain ⟨⟨t1452, t1455, t1456, t1457⟩, A100, H⟩ := H
    replace H : ((laws_sameSegs.f kj2 t1445 t1452).bind fun t1459 => (if t1459 = true then (if (t1448 != t1455) = true then (laws_FnSoFar.j1 kj2 l1 t1442 t1445 t1448 true t1449 t1450) else (laws_FnSoFar.j1 kj2 l1 t1442 t1445 t1448 (!(t1449 == t1456) || (!(t1450 == t1457))) t1449 t1450)) else (laws_FnSoFar.j1 kj2 l1 t1442 t1445 t1448 true t1449 t1450))) = some r := H
    have A10 := zA A100
    clear A100
    have HC11 := zA H
    clear H
    go_upto_region 6 with (first | ((with_reducible refine gate_callee (f := 73) rfl ?_); refine goesL_ (some 24) rfl rfl Try.func73 (by kernel_rfl) rfl #[.slice A0 l0.length c0] rfl (by (try simp only [zU, zV, zW]); first | done | rfl | (simp only [zR, zQ]; rfl)) ?_; (with_reducible refine (spec_DrawReadSegs.calls kj2 _ _ l0 t1442 _ ?side1 ?side2 A8.out).mono ?_); (case side1 => repeat (first | exact (Kd.C_below HR0.out HB.out) | (with_reducible refine yN ?_ _) | (with_reducible refine yL ?_ _) | (with_reducible refine yM ?_))); (case side2 => exact HC0.out); rintro e w12 ⟨v1443, rfl, ho0, hb⟩; refine ⟨_, rfl, ?_⟩; have n0_ := zA (Kd.R_lower ho0 (zL (by repeat (first | (with_reducible first | exact HB.out | apply zC | apply zB | apply zF) | exact HB.out)))); have n1_ := zA (below_step (by repeat (first | (with_reducible first | exact HB.out | apply zC | apply zB | apply zF) | exact HB.out)) hb); clear HB; have HO1444 := n0_; have HB := n1_; clear n0_ n1_; (try clear hb); (try clear hb2); (try clear hk); (try clear hi); (try clear ho0); obtain ⟨Ao13, co13, eo13⟩ := Kd.R_slice HO1444.out; subst eo13) | ((with_reducible refine gate_callee (f := 59) rfl ?_); refine goesL_ (some 27) rfl rfl Try.func59 (by kernel_rfl) rfl #[.slice Ao13 t1442.length co13] rfl (by (try simp only [zU, zV, zW]); first | done | rfl | (simp only [zR, zQ]; rfl)) ?_; (with_reducible refine (impl_SegsSoFar.calls _ _ t1442 t1445 t1448 t1449 t1450 _ ?side1 ?side2 A9.out).mono ?_); (case side1 => repeat (first | exact (yK HO1444.out).2.2 | (with_reducible refine yN ?_ _) | (with_reducible refine yL ?_ _) | (with_reducible refine yM ?_))); (case side2 => exact (yK HO1444.out).2.1); rintro e w14 ⟨v1446, rfl, ho0, hb⟩; refine ⟨_, rfl, ?_⟩; have n0_ := zA (Kd.R_below (by (with_reducible repeat (first | apply zN | apply zM | apply zO)); exact HO1444.out) hb); have n1_ := zA (Kd.S_lower (Kd.S_new' ho0 (Kd.R_lt (by (with_reducible repeat (first | apply zN | apply zM | apply zO)); exact HO1444.out))) (zL (by repeat (first | (with_reducible first | exact HB.out | apply zC | apply zB | apply zF) | exact HB.out)))); have n2_ := zA (below_step (by repeat (first | (with_reducible first | exact HB.out | apply zC | apply zB | apply zF) | exact HB.out)) hb); clear HO1444; clear HB; have HO1444 := n0_; have HO1447 := n1_; have HB := n2_; clear n0_ n1_ n2_; (try clear hb); (try clear hb2); (try clear hk); (try clear hi); (try clear ho0)) | ((with_reducible refine gate_dst (N := 8) rfl ?_); (try (refine gate_guard (by rfl) ?_; dsimp only)); refine box_event ?hg (N := 8) ?hd (cs := #[.int .i64 0, .int .i64 0]) (t := 65) ?hr ?_; (case hd => rfl); (case hg => rfl); (case hr => first | (go_simp; done) | (go_simp; rfl)); intro gb1451 hg w15 hbox hb; have n0_ := zA (Kd.R_below (by (with_reducible repeat (first | apply zN | apply zM | apply zO)); exact HO1444.out) hb); have n1_ := zA (Kd.S_below (by (with_reducible repeat (first | apply yE | apply yF | apply yG)); exact HO1447.out) hb); have n2_ := zA (below_step (by repeat (first | (with_reducible first | exact HB.out | apply zC | apply zB | apply zF) | exact HB.out)) hb); have n3_ := zA (hbox); have n4_ := zA ((by rw [hg]; exact (zL (by repeat (first | (with_reducible first | exact HB.out | apply zC | apply zB | apply zF) | exact HB.out))) : w.heap.size ≤ gb1451)); have n5_ := zA ((by rw [hg]; exact (zL (by repeat (first | (with_reducible first | exact HB.out | apply zC | apply zB | apply zF) | exact HB.out))) : w.heap.size ≤ gb1451)); clear HO1444; clear HO1447; clear HB; have HO1444 := n0_; have HO1447 := n1_; have HB := n2_; have BK1451 := n3_; have GW1451 := n4_; have GE1451 := n5_; clear n0_ n1_ n2_ n3_ n4_ n5_; clear hb hbox hg; have hcz16_0 : w15.cell? ⟨gb1451, 0, none⟩ = some (.int .i64 0) := (zK BK1451.out 0).trans rfl; have hcz16_1 : w15.cell? ⟨gb1451, 1, none⟩ = some (.int .i64 0) := (zK BK1451.out 1).trans rfl; have hfz16_0 := zJ BK1451.out 0; have hfz16_1 := zJ BK1451.out 1) | ((with_reducible refine gate_callee (f := 58) rfl ?_); refine goesL_ (some 33) rfl rfl Try.func58 (by kernel_rfl) rfl #[.slice Ao13 t1442.length co13] rfl (by (try simp only [zU, zV, zW]); first | done | rfl | (simp only [zR, zQ]; rfl)) ?_; (with_reducible refine (spec_SegsSoFar.calls kj2 _ _ t1442 t1452 t1455 t1456 t1457 _ ?side1 ?side2 A10.out).mono ?_); (case side1 => refine (yK (e := 5) (base := w.heap.size) (ok := fun k_ => True) (n := t1442.length) (c := co13) ?_).2.2; exact (by (with_reducible repeat (first | apply zN | apply zM | apply zO)); exact (zP (Kd.R_far (p := ⟨gb1451, 1, none⟩) (Kd.R_far (p := ⟨gb1451, 0, none⟩) (zY HO1444.out BK1451.out (by decide)) (fun _ hk => hk.2) (.int .i64 t1449)) (fun _ hk => hk.2) (.int .i64 t1450)) (fun _ h_ => h_.1)))); (case side2 => exact (yK HO1444.out).2.1); rintro e w17 ⟨v1453, rfl, ho0, hb⟩; refine ⟨_, rfl, ?_⟩; have n0_ := zA (Kd.R_below (by (with_reducible repeat (first | apply zN | apply zM | apply zO)); exact (zP (Kd.R_far (p := ⟨gb1451, 1, none⟩) (Kd.R_far (p := ⟨gb1451, 0, none⟩) (zY HO1444.out BK1451.out (by decide)) (fun _ hk => hk.2) (.int .i64 t1449)) (fun _ hk => hk.2) (.int .i64 t1450)) (fun _ h_ => h_.1))) hb); have n1_ := zA (Kd.S_elder' (by (with_reducible repeat (first | apply yE | apply yF | apply yG)); exact (yH (yI (p := ⟨gb1451, 1, none⟩) (yI (p := ⟨gb1451, 0, none⟩) (Kd.S_types HO1447.out BK1451.out (by decide)) (fun _ hk => hk.2) (.int .i64 t1449)) (fun _ hk => hk.2) (.int .i64 t1450)) (fun _ h_ => h_.1))) (Kd.S_base ho0) hb); have n2_ := zA (Kd.S_lower (Kd.S_new' (Kd.S_new' ho0 (Kd.R_lt (by (with_reducible repeat (first | apply zN | apply zM | apply zO)); exact (zP (Kd.R_far (p := ⟨gb1451, 1, none⟩) (Kd.R_far (p := ⟨gb1451, 0, none⟩) (zY HO1444.out BK1451.out (by decide)) (fun _ hk => hk.2) (.int .i64 t1449)) (fun _ hk => hk.2) (.int .i64 t1450)) (fun _ h_ => h_.1))))) (Kd.S_lt (by (with_reducible repeat (first | apply yE | apply yF | apply yG)); exact (yH (yI (p := ⟨gb1451, 1, none⟩) (yI (p := ⟨gb1451, 0, none⟩) (Kd.S_types HO1447.out BK1451.out (by decide)) (fun _ hk => hk.2) (.int .i64 t1449)) (fun _ hk => hk.2) (.int .i64 t1450)) (fun _ h_ => h_.1))))) (zL (by repeat (first | (with_reducible first | exact HB.out | apply zC | apply zB | apply zF | refine zE ?_ GE1451.out) | exact HB.out)))); have n3_ := zA (blk_below (g := gb1451) (o := .cells #[.int .i64 t1449, .int .i64 t1450] 65 (0, 0)) (by (with_reducible repeat (first | refine zG ?_ _ | refine zH ?_ | refine zD ?_ _)); refine blk_put (cs := #[.int .i64 t1449, .int .i64 0]) ?_ 1 _ rfl; (with_reducible repeat (first | refine zG ?_ _ | refine zH ?_ | refine zD ?_ _)); refine blk_put (cs := #[.int .i64 0, .int .i64 0]) ?_ 0 _ rfl; (with_reducible repeat (first | refine zG ?_ _ | refine zH ?_ | refine zD ?_ _)); exact BK1451.out) hb); have n4_ := zA (below_step (by repeat (first | (with_reducible first | exact HB.out | apply zC | apply zB | apply zF | refine zE ?_ GE1451.out) | exact HB.out)) hb); clear HO1444; clear HO1447; clear BK1451; clear HB; have HO1444 := n0_; have HO1447 := n1_; have HO1454 := n2_; have BK1451 := n3_; have HB := n4_; clear n0_ n1_ n2_ n3_ n4_; (try clear hb); (try clear hb2); (try clear hk); (try clear hi); (try clear ho0)) | ((with_reducible refine gate_dst (N := 11) rfl ?_); (try (refine gate_guard (by rfl) ?_; dsimp only)); refine box_event ?hg (N := 11) ?hd (cs := #[.int .i64 0, .int .i64 0]) (t := 65) ?hr ?_; (case hd => rfl); (case hg => rfl); (case hr => first | (go_simp; done) | (go_simp; rfl)); intro gb1458 hg w18 hbox hb; have n0_ := zA (Kd.R_below (by (with_reducible repeat (first | apply zN | apply zM | apply zO)); exact HO1444.out) hb); have n1_ := zA (Kd.S_below (by (with_reducible repeat (first | apply yE | apply yF | apply yG)); exact HO1447.out) hb); have n2_ := zA (Kd.S_below (by (with_reducible repeat (first | apply yE | apply yF | apply yG)); exact HO1454.out) hb); have n3_ := zA (blk_below (g := gb1451) (o := .cells #[.int .i64 t1449, .int .i64 t1450] 65 (0, 0)) (by (with_reducible repeat (first | refine zG ?_ _ | refine zH ?_ | refine zD ?_ _)); exact BK1451.out) hb); have n4_ := zA (below_step (by repeat (first | (with_reducible first | exact HB.out | apply zC | apply zB | apply zF | refine zE ?_ GE1451.out) | exact HB.out)) hb); have n5_ := zA (hbox); have n6_ := zA ((by rw [hg]; exact (zL (by repeat (first | (with_reducible first | exact HB.out | apply zC | apply zB | apply zF | refine zE ?_ GE1451.out) | exact HB.out))) : w.heap.size ≤ gb1458)); have n7_ := zA ((by rw [hg]; exact (zL (by repeat (first | (with_reducible first | exact HB.out | apply zC | apply zB | apply zF | refine zE ?_ GE1451.out) | exact HB.out))) : w.heap.size ≤ gb1458)); have n8_ := zA ((by rw [hg]; exact Nat.ne_of_lt (blk_lt (g := gb1451) (o := .cells #[.int .i64 t1449, .int .i64 t1450] 65 (0, 0)) (by (with_reducible repeat (first | refine zG ?_ _ | refine zH ?_ | refine zD ?_ _)); exact BK1451.out)) : gb1451 ≠ gb1458)); have n9_ := zA ((by rw [hg]; exact Nat.ne_of_gt (blk_lt (g := gb1451) (o := .cells #[.int .i64 t1449, .int .i64 t1450] 65 (0, 0)) (by (with_reducible repeat (first | refine zG ?_ _ | refine zH ?_ | refine zD ?_ _)); exact BK1451.out)) : gb1458 ≠ gb1451)); clear HO1444; clear HO1447; clear HO1454; clear BK1451; clear HB; have HO1444 := n0_; have HO1447 := n1_; have HO1454 := n2_; have BK1451 := n3_; have HB := n4_; have BK1458 := n5_; have GW1458 := n6_; have GE1458 := n7_; have NB1451_1458 := n8_; have NB1458_1451 := n9_; clear n0_ n1_ n2_ n3_ n4_ n5_ n6_ n7_ n8_ n9_; clear hb hbox hg; have hnb19 := NB1458_1451.out; have hnc19 := NB1451_1458.out; have hcz20_0 : w18.cell? ⟨gb1458, 0, none⟩ = some (.int .i64 0) := (zK BK1458.out 0).trans rfl; have hcz20_1 : w18.cell? ⟨gb1458, 1, none⟩ = some (.int .i64 0) := (zK BK1458.out 1).trans rfl; have hfz20_0 := zJ BK1458.out 0; have hfz20_1 := zJ BK1458.out 1))
    (try simp only [Act.put, List.setIfInBounds_toArray, List.set_cons_zero, List.set_cons_succ])
    go_cut [50] (fun v50 wc => ∃ (kq : Nat) (x50_10 : Bool), v50 = .bool x50_10 ∧ Aside0 (laws_FnSoFar.j1 kq l1 t1442 t1445 t1448 x50_10 t1449 t1450 = some r) ∧ Aside0 (kq ≤ kj2) ∧ Aside0 (Kd.R (Kd.int .u8) 5 wc w.heap.size (fun _ => True) (.slice Ao13 t1442.length co13) t1442) ∧ Aside0 (Kd.S k131 131 wc w.heap.size (fun k_ => some k_ ≠ ((.slice Ao13 t1442.length co13) : Value).ownBlock) v1446 t1445) ∧ Aside0 (wc.heap[gb1451]? = some (.cells #[.int .i64 t1449, .int .i64 t1450] 65 (0, 0))) ∧ Aside0 (wc.heap[gb1458]? = some (.cells #[.int .i64 t1456, .int .i64 t1457] 65 (0, 0))) ∧ Aside0 (Below w.heap.size w wc))
    case first =>
     have H := HC11.out
     clear HC11
     replace H := Option.bind_eq_some_iff.mp H
     obtain ⟨t1459, A210, H⟩ := H
     replace H : (if t1459 = true then (if (t1448 != t1455) = true then (laws_FnSoFar.j1 kj2 l1 t1442 t1445 t1448 true t1449 t1450) else (laws_FnSoFar.j1 kj2 l1 t1442 t1445 t1448 (!(t1449 == t1456) || (!(t1450 == t1457))) t1449 t1450)) else (laws_FnSoFar.j1 kj2 l1 t1442 t1445 t1448 true t1449 t1450)) = some r := H
     have A21 := zA A210
     clear A210
     by_cases c22 : t1459 = true
     ·subst c22
      have H1 : (if (t1448 != t1455) = true then (laws_FnSoFar.j1 kj2 l1 t1442 t1445 t1448 true t1449 t1450) else (laws_FnSoFar.j1 kj2 l1 t1442 t1445 t1448 (!(t1449 == t1456) || (!(t1450 == t1457))) t1449 t1450)) = some r := by rw [if_pos rfl] at H; exact H
      clear H
      have H := H1
      clear H1
      by_cases c23 : (t1448 != t1455) = true
      ·rw [if_pos c23] at H
       have c23b0 : (t1448 != t1455) = true := c23
       (try (have c23b1 : decide (t1448 = t1455) = false := by simpa using c23))
       (try (have c23b2 : (t1448 == t1455) = false := by simpa using c23))
       (try (have c23b3 : ¬ (t1448 = t1455) := by simpa using c23))
       clear c23
       (first | rw [c23b0] | (simp only [i64_w, i32_w]; rw [c23b0]) | skip)
       have H' := zA H
       clear H
       obtain ⟨Ao24, co24, eo24⟩ := Kd.S_slice HO1447.out
       subst eo24
       obtain ⟨Ao25, co25, eo25⟩ := Kd.S_slice HO1454.out
       subst eo25
       go_wp2_with (first | ((with_reducible refine gate_callee (f := 74) rfl ?_); refine goesL_ (some 39) rfl rfl Try.func74 (by kernel_rfl) rfl #[.slice Ao24 t1445.length co24, .slice Ao25 t1452.length co25] rfl (by (try simp only [zU, zV, zW]); first | done | rfl | (simp only [zR, zQ]; rfl)) ?_; (with_reducible refine (laws_sameSegs.calls kj2 _ _ t1445 _ _ t1452 true _ ?side1 ?side2 ?side3 ?side4 A21.out).mono ?_); (case side1 => refine (Kd.S_reads' (e := 131) (base := w.heap.size) (ok := fun k_ => ((True ∧ some k_ ≠ (.slice Ao13 t1442.length co13 : Value).ownBlock) ∧ some k_ ≠ (.slice Ao25 t1452.length co25 : Value).ownBlock)) (n := t1445.length) (c := co24) ?_).2.2; exact (by (with_reducible repeat (first | apply yE | apply yF | apply yG)); exact (yH (yI (p := ⟨gb1458, 1, none⟩) (yI (p := ⟨gb1458, 0, none⟩) (Kd.S_types HO1447.out BK1458.out (by decide)) (fun _ hk => hk.2) (.int .i64 t1456)) (fun _ hk => hk.2) (.int .i64 t1457)) (fun _ h_ => h_.1)))); (case side2 => exact (Kd.S_reads' HO1447.out).2.1); (case side3 => refine (Kd.S_reads' (e := 131) (base := w.heap.size) (ok := fun k_ => ((True ∧ some k_ ≠ (.slice Ao13 t1442.length co13 : Value).ownBlock) ∧ some k_ ≠ (.slice Ao24 t1445.length co24 : Value).ownBlock)) (n := t1452.length) (c := co25) ?_).2.2; exact (by (with_reducible repeat (first | apply yE | apply yF | apply yG)); exact (yH (yI (p := ⟨gb1458, 1, none⟩) (yI (p := ⟨gb1458, 0, none⟩) (Kd.S_types HO1454.out BK1458.out (by decide)) (fun _ hk => hk.2) (.int .i64 t1456)) (fun _ hk => hk.2) (.int .i64 t1457)) (fun _ h_ => h_.1)))); (case side4 => exact (Kd.S_reads' HO1454.out).2.1); rintro e w' ⟨rfl, ⟨nd, rfl⟩⟩; refine ⟨_, rfl, ?_⟩))
       go_meet
       case rel => exact ⟨_, (true), (by first | rfl | (simp; done) | (simp [*]; done)), H', ⟨by have := HJ2.out; first | omega | exact Nat.le_refl _⟩, ⟨by (with_reducible repeat (first | apply zN | apply zM | apply zO)); exact zP (Kd.R_far (p := ⟨gb1458, 1, none⟩) (Kd.R_far (p := ⟨gb1458, 0, none⟩) (zY HO1444.out BK1458.out (by decide)) (fun _ hk => hk.2) (.int .i64 t1456)) (fun _ hk => hk.2) (.int .i64 t1457)) (fun _ hk => trivial)⟩, ⟨by (with_reducible repeat (first | apply yE | apply yF | apply yG)); exact yH (yI (p := ⟨gb1458, 1, none⟩) (yI (p := ⟨gb1458, 0, none⟩) (Kd.S_types HO1447.out BK1458.out (by decide)) (fun _ hk => hk.2) (.int .i64 t1456)) (fun _ hk => hk.2) (.int .i64 t1457)) (fun _ hk => hk.1.1.2)⟩, ⟨by (with_reducible repeat (first | refine zG ?_ _ | refine zH ?_ | refine zD ?_ _)); refine blk_far ?_ NB1451_1458.out _; (with_reducible repeat (first | refine zG ?_ _ | refine zH ?_ | refine zD ?_ _)); refine blk_far ?_ NB1451_1458.out _; (with_reducible repeat (first | refine zG ?_ _ | refine zH ?_ | refine zD ?_ _)); exact BK1451.out⟩, ⟨by (with_reducible repeat (first | refine zG ?_ _ | refine zH ?_ | refine zD ?_ _)); refine blk_put (cs := #[.int .i64 t1456, .int .i64 0]) ?_ 1 _ rfl; (with_reducible repeat (first | refine zG ?_ _ | refine zH ?_ | refine zD ?_ _)); refine blk_put (cs := #[.int .i64 0, .int .i64 0]) ?_ 0 _ rfl; (with_reducible repeat (first | refine zG ?_ _ | refine zH ?_ | refine zD ?_ _)); exact BK1458.out⟩, ⟨by repeat (first | (with_reducible first | exact HB.out | apply zC | apply zB | apply zF | refine zE ?_ GE1451.out | refine zE ?_ GE1458.out) | exact HB.out)⟩⟩
      ·rw [if_neg c23] at H
       have c23b0 : (t1448 != t1455) = false := by simpa using c23
       (try (have c23b1 : decide (t1448 = t1455) = true := by simpa using c23))
       (try (have c23b2 : (t1448 == t1455) = true := by simpa using c23))
       clear c23
       (first | rw [c23b0] | (simp only [i64_w, i32_w]; rw [c23b0]) | skip)
       have H' := zA H
       clear H
       obtain ⟨Ao26, co26, eo26⟩ := Kd.S_slice HO1447.out
       subst eo26
       obtain ⟨Ao27, co27, eo27⟩ := Kd.S_slice HO1454.out
       subst eo27
       go_wp2_with (first | ((with_reducible refine gate_callee (f := 74) rfl ?_); refine goesL_ (some 39) rfl rfl Try.func74 (by kernel_rfl) rfl #[.slice Ao26 t1445.length co26, .slice Ao27 t1452.length co27] rfl (by (try simp only [zU, zV, zW]); first | done | rfl | (simp only [zR, zQ]; rfl)) ?_; (with_reducible refine (laws_sameSegs.calls kj2 _ _ t1445 _ _ t1452 true _ ?side1 ?side2 ?side3 ?side4 A21.out).mono ?_); (case side1 => refine (Kd.S_reads' (e := 131) (base := w.heap.size) (ok := fun k_ => ((True ∧ some k_ ≠ (.slice Ao13 t1442.length co13 : Value).ownBlock) ∧ some k_ ≠ (.slice Ao27 t1452.length co27 : Value).ownBlock)) (n := t1445.length) (c := co26) ?_).2.2; exact (by (with_reducible repeat (first | apply yE | apply yF | apply yG)); exact (yH (yI (p := ⟨gb1458, 1, none⟩) (yI (p := ⟨gb1458, 0, none⟩) (Kd.S_types HO1447.out BK1458.out (by decide)) (fun _ hk => hk.2) (.int .i64 t1456)) (fun _ hk => hk.2) (.int .i64 t1457)) (fun _ h_ => h_.1)))); (case side2 => exact (Kd.S_reads' HO1447.out).2.1); (case side3 => refine (Kd.S_reads' (e := 131) (base := w.heap.size) (ok := fun k_ => ((True ∧ some k_ ≠ (.slice Ao13 t1442.length co13 : Value).ownBlock) ∧ some k_ ≠ (.slice Ao26 t1445.length co26 : Value).ownBlock)) (n := t1452.length) (c := co27) ?_).2.2; exact (by (with_reducible repeat (first | apply yE | apply yF | apply yG)); exact (yH (yI (p := ⟨gb1458, 1, none⟩) (yI (p := ⟨gb1458, 0, none⟩) (Kd.S_types HO1454.out BK1458.out (by decide)) (fun _ hk => hk.2) (.int .i64 t1456)) (fun _ hk => hk.2) (.int .i64 t1457)) (fun _ h_ => h_.1)))); (case side4 => exact (Kd.S_reads' HO1454.out).2.1); rintro e w' ⟨rfl, ⟨nd, rfl⟩⟩; refine ⟨_, rfl, ?_⟩; have hnb28 := NB1451_1458.out; have hnc28 := NB1458_1451.out; have hcz29_0 : w18.cell? ⟨gb1451, 0, none⟩ = some (.int .i64 t1449) := (zK BK1451.out 0).trans rfl; have hcz29_1 : w18.cell? ⟨gb1451, 1, none⟩ = some (.int .i64 t1450) := (zK BK1451.out 1).trans rfl; have hfz29_0 := zJ BK1451.out 0; have hfz29_1 := zJ BK1451.out 1; have hcz30_0 : w18.cell? ⟨gb1458, 0, none⟩ = some (.int .i64 0) := (zK BK1458.out 0).trans rfl; have hcz30_1 : w18.cell? ⟨gb1458, 1, none⟩ = some (.int .i64 0) := (zK BK1458.out 1).trans rfl; have hfz30_0 := zJ BK1458.out 0; have hfz30_1 := zJ BK1458.out 1))
       go_meet
       case rel => exact ⟨_, ((!(t1449 == t1456) || (!(t1450 == t1457)))), (by first | rfl | (simp; done) | (simp [*]; done)), H', ⟨by have := HJ2.out; first | omega | exact Nat.le_refl _⟩, ⟨by (with_reducible repeat (first | apply zN | apply zM | apply zO)); exact zP (Kd.R_far (p := ⟨gb1458, 1, none⟩) (Kd.R_far (p := ⟨gb1458, 0, none⟩) (zY HO1444.out BK1458.out (by decide)) (fun _ hk => hk.2) (.int .i64 t1456)) (fun _ hk => hk.2) (.int .i64 t1457)) (fun _ hk => trivial)⟩, ⟨by (with_reducible repeat (first | apply yE | apply yF | apply yG)); exact yH (yI (p := ⟨gb1458, 1, none⟩) (yI (p := ⟨gb1458, 0, none⟩) (Kd.S_types HO1447.out BK1458.out (by decide)) (fun _ hk => hk.2) (.int .i64 t1456)) (fun _ hk => hk.2) (.int .i64 t1457)) (fun _ hk => hk.1.1.2)⟩, ⟨by (with_reducible repeat (first | refine zG ?_ _ | refine zH ?_ | refine zD ?_ _)); refine blk_far ?_ NB1451_1458.out _; (with_reducible repeat (first | refine zG ?_ _ | refine zH ?_ | refine zD ?_ _)); refine blk_far ?_ NB1451_1458.out _; (with_reducible repeat (first | refine zG ?_ _ | refine zH ?_ | refine zD ?_ _)); exact BK1451.out⟩, ⟨by (with_reducible repeat (first | refine zG ?_ _ | refine zH ?_ | refine zD ?_ _)); refine blk_put (cs := #[.int .i64 t1456, .int .i64 0]) ?_ 1 _ rfl; (with_reducible repeat (first | refine zG ?_ _ | refine zH ?_ | refine zD ?_ _)); refine blk_put (cs := #[.int .i64 0, .int .i64 0]) ?_ 0 _ rfl; (with_reducible repeat (first | refine zG ?_ _ | refine zH ?_ | refine zD ?_ _)); exact BK1458.out⟩, ⟨by repeat (first | (with_reducible first | exact HB.out | apply zC | apply zB | apply zF | refine zE ?_ GE1451.out | refine zE ?_ GE1458.out) | exact HB.out)⟩⟩
     ·replace c22 := Bool.eq_false_iff.mpr c22
      subst c22
      have H1 : (laws_FnSoFar.j1 kj2 l1 t1442 t1445 t1448 true t1449 t1450) = some r := by rw [if_neg (show ¬ (false = true) by decide)] at H; exact H
      clear H
      have H := H1
      clear H1
      have H' := zA H
      clear H
      obtain ⟨Ao31, co31, eo31⟩ := Kd.S_slice HO1447.out
      subst eo31
      obtain ⟨Ao32, co32, eo32⟩ := Kd.S_slice HO1454.out
      subst eo32
      go_wp2_with (first | ((with_reducible refine gate_callee (f := 74) rfl ?_); refine goesL_ (some 39) rfl rfl Try.func74 (by kernel_rfl) rfl #[.slice Ao31 t1445.length co31, .slice Ao32 t1452.length co32] rfl (by (try simp only [zU, zV, zW]); first | done | rfl | (simp only [zR, zQ]; rfl)) ?_; (with_reducible refine (laws_sameSegs.calls kj2 _ _ t1445 _ _ t1452 false _ ?side1 ?side2 ?side3 ?side4 A21.out).mono ?_); (case side1 => refine (Kd.S_reads' (e := 131) (base := w.heap.size) (ok := fun k_ => ((True ∧ some k_ ≠ (.slice Ao13 t1442.length co13 : Value).ownBlock) ∧ some k_ ≠ (.slice Ao32 t1452.length co32 : Value).ownBlock)) (n := t1445.length) (c := co31) ?_).2.2; exact (by (with_reducible repeat (first | apply yE | apply yF | apply yG)); exact (yH (yI (p := ⟨gb1458, 1, none⟩) (yI (p := ⟨gb1458, 0, none⟩) (Kd.S_types HO1447.out BK1458.out (by decide)) (fun _ hk => hk.2) (.int .i64 t1456)) (fun _ hk => hk.2) (.int .i64 t1457)) (fun _ h_ => h_.1)))); (case side2 => exact (Kd.S_reads' HO1447.out).2.1); (case side3 => refine (Kd.S_reads' (e := 131) (base := w.heap.size) (ok := fun k_ => ((True ∧ some k_ ≠ (.slice Ao13 t1442.length co13 : Value).ownBlock) ∧ some k_ ≠ (.slice Ao31 t1445.length co31 : Value).ownBlock)) (n := t1452.length) (c := co32) ?_).2.2; exact (by (with_reducible repeat (first | apply yE | apply yF | apply yG)); exact (yH (yI (p := ⟨gb1458, 1, none⟩) (yI (p := ⟨gb1458, 0, none⟩) (Kd.S_types HO1454.out BK1458.out (by decide)) (fun _ hk => hk.2) (.int .i64 t1456)) (fun _ hk => hk.2) (.int .i64 t1457)) (fun _ h_ => h_.1)))); (case side4 => exact (Kd.S_reads' HO1454.out).2.1); rintro e w' ⟨rfl, ⟨nd, rfl⟩⟩; refine ⟨_, rfl, ?_⟩))
      go_meet
      case rel => exact ⟨_, (true), (by first | rfl | (simp; done) | (simp [*]; done)), H', ⟨by have := HJ2.out; first | omega | exact Nat.le_refl _⟩, ⟨by (with_reducible repeat (first | apply zN | apply zM | apply zO)); exact zP (Kd.R_far (p := ⟨gb1458, 1, none⟩) (Kd.R_far (p := ⟨gb1458, 0, none⟩) (zY HO1444.out BK1458.out (by decide)) (fun _ hk => hk.2) (.int .i64 t1456)) (fun _ hk => hk.2) (.int .i64 t1457)) (fun _ hk => trivial)⟩, ⟨by (with_reducible repeat (first | apply yE | apply yF | apply yG)); exact yH (yI (p := ⟨gb1458, 1, none⟩) (yI (p := ⟨gb1458, 0, none⟩) (Kd.S_types HO1447.out BK1458.out (by decide)) (fun _ hk => hk.2) (.int .i64 t1456)) (fun _ hk => hk.2) (.int .i64 t1457)) (fun _ hk => hk.1.1.2)⟩, ⟨by (with_reducible repeat (first | refine zG ?_ _ | refine zH ?_ | refine zD ?_ _)); refine blk_far ?_ NB1451_1458.out _; (with_reducible repeat (first | refine zG ?_ _ | refine zH ?_ | refine zD ?_ _)); refine blk_far ?_ NB1451_1458.out _; (with_reducible repeat (first | refine zG ?_ _ | refine zH ?_ | refine zD ?_ _)); exact BK1451.out⟩, ⟨by (with_reducible repeat (first | refine zG ?_ _ | refine zH ?_ | refine zD ?_ _)); refine blk_put (cs := #[.int .i64 t1456, .int .i64 0]) ?_ 1 _ rfl; (with_reducible repeat (first | refine zG ?_ _ | refine zH ?_ | refine zD ?_ _)); refine blk_put (cs := #[.int .i64 0, .int .i64 0]) ?_ 0 _ rfl; (with_reducible repeat (first | refine zG ?_ _ | refine zH ?_ | refine zD ?_ _)); exact BK1458.out⟩, ⟨by repeat (first | (with_reducible first | exact HB.out | apply zC | apply zB | apply zF | refine zE ?_ GE1451.out | refine zE ?_ GE1458.out) | exact HB.out)⟩⟩
    case rest =>
     clear HC11
     try clear c1
     try clear c2
     try clear p2
     try clear c5
     try clear c7
     try clear c14
     try clear c19
     try clear c22
     try clear c23
     try clear c23b0
     try clear c23b1
     try clear c23b2
     try clear c24
     try clear c28
     try clear hcz16_0
     try clear hcz16_1
     try clear hcz20_0
     try clear hcz20_1
     try clear hcz29_0
     try clear hcz29_1
     try clear hcz30_0
     try clear hcz30_1
     try clear hfz16_0
     try clear hfz16_1
     try clear hfz20_0
     try clear hfz20_1
     try clear hfz29_0
     try clear hfz29_1
     try clear hfz30_0
     try clear hfz30_1
     try clear p2
     obtain ⟨kq, x50_10, rfl, HA, HJ10, HO_5, HO_6, BK1451, BK1458, HB⟩ := hcut
     cases kq with
     | zero => exact absurd HA.out (by simp [laws_FnSoFar.j1])
     | succ kj10 =>
      have H := HA.out
      clear HA
      simp only [laws_FnSoFar.j1] at H
      by_cases c33 : x50_10 = true
      ·subst c33
       have H1 : (some false) = some r := by rw [if_pos rfl] at H; exact H
       clear H
       have H := H1
       clear H1
       obtain rfl := Option.some.inj H
       go_wp2
       go_ret
       exact ⟨by first | rfl | (simp [errW_none, errW_some] <;> rfl) | (simp [*, errW_none, errW_some] <;> rfl), by repeat (first | (with_reducible first | exact HB.out | apply zC | apply zB | apply zF | refine zE ?_ GE1451.out | refine zE ?_ GE1458.out) | exact HB.out)⟩
      ·replace c33 := Bool.eq_false_iff.mpr c33
       subst c33
       have H1 : ((spec_ReadSegs.f kj10 t1442).bind fun bt1460 => (if bt1460.2.1 = 0 then (if t1448 = true then (if t1449 = 0 then ((laws_sameSegs.f kj10 t1445 bt1460.1).bind fun t1466 => (laws_FnSoFar.j2 kj10 l1 t1442 bt1460.1 (!t1466))) else (laws_FnSoFar.j2 kj10 l1 t1442 bt1460.1 true)) else (laws_FnSoFar.j2 kj10 l1 t1442 bt1460.1 true)) else (if t1449 = 0 then (some (!t1448)) else (some true)))) = some r := by rw [if_neg (show ¬ (false = true) by decide)] at H; exact H
       clear H
       have H := H1
       clear H1
       replace H := Option.bind_eq_some_iff.mp H
       obtain ⟨⟨t1460, t1463, t1464⟩, A340, H⟩ := H
       replace H : (if t1463 = 0 then (if t1448 = true then (if t1449 = 0 then ((laws_sameSegs.f kj10 t1445 t1460).bind fun t1466 => (laws_FnSoFar.j2 kj10 l1 t1442 t1460 (!t1466))) else (laws_FnSoFar.j2 kj10 l1 t1442 t1460 true)) else (laws_FnSoFar.j2 kj10 l1 t1442 t1460 true)) else (if t1449 = 0 then (some (!t1448)) else (some true))) = some r := H
       have A34 := zA A340
       clear A340
       by_cases c35 : t1463 = 0
       ·rw [if_pos c35] at H
        have c35b0 : (t1463 == 0) = true := beq_iff_eq.mpr c35
        have c35b1 : (t1463 != 0) = false := bne_eq_false_iff_eq.mpr c35
        clear c35
        have HC36 := zA H
        clear H
        go_upto_region 11 with (first | ((with_reducible refine gate_callee (f := 75) rfl ?_); refine goesL_ (some 53) rfl rfl Try.func75 (by kernel_rfl) rfl #[.slice Ao13 t1442.length co13] rfl (by (try simp only [zU, zV, zW]); first | done | rfl | (simp only [zR, zQ]; rfl)) ?_; (with_reducible refine (spec_ReadSegs.calls kj10 _ _ t1442 t1460 t1463 t1464 _ ?side1 ?side2 A34.out).mono ?_); (case side1 => repeat (first | exact (yK HO_5.out).2.2 | (with_reducible refine yN ?_ _) | (with_reducible refine yL ?_ _) | (with_reducible refine yM ?_))); (case side2 => exact (yK HO_5.out).2.1); rintro e w37 ⟨v1461, rfl, ho0, hb⟩; refine ⟨_, rfl, ?_⟩; have n0_ := zA (Kd.R_below (by (with_reducible repeat (first | apply zN | apply zM | apply zO)); exact HO_5.out) hb); have n1_ := zA (Kd.S_elder' (by (with_reducible repeat (first | apply yE | apply yF | apply yG)); exact HO_6.out) (Kd.S_base ho0) hb); have n2_ := zA (Kd.S_lower (Kd.S_new' (Kd.S_new' ho0 (Kd.R_lt (by (with_reducible repeat (first | apply zN | apply zM | apply zO)); exact HO_5.out))) (Kd.S_lt (by (with_reducible repeat (first | apply yE | apply yF | apply yG)); exact HO_6.out))) (zL (by repeat (first | (with_reducible first | exact HB.out | apply zC | apply zB | apply zF | refine zE ?_ GE1451.out | refine zE ?_ GE1458.out) | exact HB.out)))); have n3_ := zA (blk_below (g := gb1451) (o := .cells #[.int .i64 t1449, .int .i64 t1450] 65 (0, 0)) (by (with_reducible repeat (first | refine zG ?_ _ | refine zH ?_ | refine zD ?_ _)); exact BK1451.out) hb); have n4_ := zA (blk_below (g := gb1458) (o := .cells #[.int .i64 t1456, .int .i64 t1457] 65 (0, 0)) (by (with_reducible repeat (first | refine zG ?_ _ | refine zH ?_ | refine zD ?_ _)); exact BK1458.out) hb); have n5_ := zA (below_step (by repeat (first | (with_reducible first | exact HB.out | apply zC | apply zB | apply zF | refine zE ?_ GE1451.out | refine zE ?_ GE1458.out) | exact HB.out)) hb); clear HO_5; clear HO_6; clear BK1451; clear BK1458; clear HB; have HO_5 := n0_; have HO_6 := n1_; have HO1462 := n2_; have BK1451 := n3_; have BK1458 := n4_; have HB := n5_; clear n0_ n1_ n2_ n3_ n4_ n5_; (try clear hb); (try clear hb2); (try clear hk); (try clear hi); (try clear ho0)) | ((with_reducible refine gate_dst (N := 13) rfl ?_); (try (refine gate_guard (by rfl) ?_; dsimp only)); refine box_event ?hg (N := 13) ?hd (cs := #[.int .i64 0, .int .i64 0]) (t := 65) ?hr ?_; (case hd => rfl); (case hg => rfl); (case hr => first | (go_simp; done) | (go_simp; rfl)); intro gb1465 hg w38 hbox hb; have n0_ := zA (Kd.R_below (by (with_reducible repeat (first | apply zN | apply zM | apply zO)); exact HO_5.out) hb); have n1_ := zA (Kd.S_below (by (with_reducible repeat (first | apply yE | apply yF | apply yG)); exact HO_6.out) hb); have n2_ := zA (Kd.S_below (by (with_reducible repeat (first | apply yE | apply yF | apply yG)); exact HO1462.out) hb); have n3_ := zA (blk_below (g := gb1451) (o := .cells #[.int .i64 t1449, .int .i64 t1450] 65 (0, 0)) (by (with_reducible repeat (first | refine zG ?_ _ | refine zH ?_ | refine zD ?_ _)); exact BK1451.out) hb); have n4_ := zA (blk_below (g := gb1458) (o := .cells #[.int .i64 t1456, .int .i64 t1457] 65 (0, 0)) (by (with_reducible repeat (first | refine zG ?_ _ | refine zH ?_ | refine zD ?_ _)); exact BK1458.out) hb); have n5_ := zA (below_step (by repeat (first | (with_reducible first | exact HB.out | apply zC | apply zB | apply zF | refine zE ?_ GE1451.out | refine zE ?_ GE1458.out) | exact HB.out)) hb); have n6_ := zA (hbox); have n7_ := zA ((by rw [hg]; exact (zL (by repeat (first | (with_reducible first | exact HB.out | apply zC | apply zB | apply zF | refine zE ?_ GE1451.out | refine zE ?_ GE1458.out) | exact HB.out))) : w.heap.size ≤ gb1465)); have n8_ := zA ((by rw [hg]; exact (zL (by repeat (first | (with_reducible first | exact HB.out | apply zC | apply zB | apply zF | refine zE ?_ GE1451.out | refine zE ?_ GE1458.out) | exact HB.out))) : w.heap.size ≤ gb1465)); have n9_ := zA ((by rw [hg]; exact Nat.ne_of_lt (blk_lt (g := gb1451) (o := .cells #[.int .i64 t1449, .int .i64 t1450] 65 (0, 0)) (by (with_reducible repeat (first | refine zG ?_ _ | refine zH ?_ | refine zD ?_ _)); exact BK1451.out)) : gb1451 ≠ gb1465)); have n10_ := zA ((by rw [hg]; exact Nat.ne_of_gt (blk_lt (g := gb1451) (o := .cells #[.int .i64 t1449, .int .i64 t1450] 65 (0, 0)) (by (with_reducible repeat (first | refine zG ?_ _ | refine zH ?_ | refine zD ?_ _)); exact BK1451.out)) : gb1465 ≠ gb1451)); have n11_ := zA ((by rw [hg]; exact Nat.ne_of_lt (blk_lt (g := gb1458) (o := .cells #[.int .i64 t1456, .int .i64 t1457] 65 (0, 0)) (by (with_reducible repeat (first | refine zG ?_ _ | refine zH ?_ | refine zD ?_ _)); exact BK1458.out)) : gb1458 ≠ gb1465)); have n12_ := zA ((by rw [hg]; exact Nat.ne_of_gt (blk_lt (g := gb1458) (o := .cells #[.int .i64 t1456, .int .i64 t1457] 65 (0, 0)) (by (with_reducible repeat (first | refine zG ?_ _ | refine zH ?_ | refine zD ?_ _)); exact BK1458.out)) : gb1465 ≠ gb1458)); clear HO_5; clear HO_6; clear HO1462; clear BK1451; clear BK1458; clear HB; have HO_5 := n0_; have HO_6 := n1_; have HO1462 := n2_; have BK1451 := n3_; have BK1458 := n4_; have HB := n5_; have BK1465 := n6_; have GW1465 := n7_; have GE1465 := n8_; have NB1451_1465 := n9_; have NB1465_1451 := n10_; have NB1458_1465 := n11_; have NB1465_1458 := n12_; clear n0_ n1_ n2_ n3_ n4_ n5_ n6_ n7_ n8_ n9_ n10_ n11_ n12_; clear hb hbox hg; have hnb39 := NB1465_1451.out; have hnc39 := NB1451_1465.out; have hnb40 := NB1465_1458.out; have hnc40 := NB1458_1465.out; have hcz41_0 : w38.cell? ⟨gb1465, 0, none⟩ = some (.int .i64 0) := (zK BK1465.out 0).trans rfl; have hcz41_1 : w38.cell? ⟨gb1465, 1, none⟩ = some (.int .i64 0) := (zK BK1465.out 1).trans rfl; have hfz41_0 := zJ BK1465.out 0; have hfz41_1 := zJ BK1465.out 1))
        (try simp only [Act.put, List.setIfInBounds_toArray, List.set_cons_zero, List.set_cons_succ])
        go_cut [78] (fun v78 wc => ∃ (kq : Nat) (x78_35 : Bool), v78 = .bool x78_35 ∧ Aside0 (laws_FnSoFar.j2 kq l1 t1442 t1460 x78_35 = some r) ∧ Aside0 (kq ≤ kj10) ∧ Aside0 (Kd.R (Kd.int .u8) 5 wc w.heap.size (fun _ => True) (.slice Ao13 t1442.length co13) t1442) ∧ Aside0 (Kd.S k131 131 wc w.heap.size (fun k_ => some k_ ≠ ((.slice Ao13 t1442.length co13) : Value).ownBlock) v1461 t1460) ∧ Aside0 (wc.heap[gb1451]? = some (.cells #[.int .i64 t1449, .int .i64 t1450] 65 (0, 0))) ∧ Aside0 (wc.heap[gb1458]? = some (.cells #[.int .i64 t1456, .int .i64 t1457] 65 (0, 0))) ∧ Aside0 (wc.heap[gb1465]? = some (.cells #[.int .i64 t1463, .int .i64 t1464] 65 (0, 0))) ∧ Aside0 (Below w.heap.size w wc))
        case first =>
         have H := HC36.out
         clear HC36
         by_cases c42 : t1448 = true
         ·subst c42
          have H1 : (if t1449 = 0 then ((laws_sameSegs.f kj10 t1445 t1460).bind fun t1466 => (laws_FnSoFar.j2 kj10 l1 t1442 t1460 (!t1466))) else (laws_FnSoFar.j2 kj10 l1 t1442 t1460 true)) = some r := by rw [if_pos rfl] at H; exact H
          clear H
          have H := H1
          clear H1
          by_cases c43 : t1449 = 0
          ·rw [if_pos c43] at H
           have c43b0 : (t1449 == 0) = true := beq_iff_eq.mpr c43
           have c43b1 : (t1449 != 0) = false := bne_eq_false_iff_eq.mpr c43
           clear c43
           (first | rw [c43b0] | (simp only [i64_w, i32_w]; rw [c43b0]) | skip)
           replace H := Option.bind_eq_some_iff.mp H
           obtain ⟨t1466, A440, H⟩ := H
           replace H : (laws_FnSoFar.j2 kj10 l1 t1442 t1460 (!t1466)) = some r := H
           have A44 := zA A440
           clear A440
           have H' := zA H
           clear H
           have hnb45 := NB1451_1458.out
           have hnc45 := NB1458_1451.out
           have hnb46 := NB1451_1465.out
           have hnc46 := NB1465_1451.out
           have hcz47_0 : w38.cell? ⟨gb1451, 0, none⟩ = some (.int .i64 t1449) := (zK BK1451.out 0).trans rfl
           have hcz47_1 : w38.cell? ⟨gb1451, 1, none⟩ = some (.int .i64 t1450) := (zK BK1451.out 1).trans rfl
           have hfz47_0 := zJ BK1451.out 0
           have hfz47_1 := zJ BK1451.out 1
           obtain ⟨Ao48, co48, eo48⟩ := Kd.S_slice HO_6.out
           subst eo48
           obtain ⟨Ao49, co49, eo49⟩ := Kd.S_slice HO1462.out
           subst eo49
           go_wp2_with (first | (go_at_call 74; (with_reducible refine (laws_sameSegs.calls kj10 _ _ t1445 _ _ t1460 t1466 _ ?side1 ?side2 ?side3 ?side4 A44.out).mono ?_); (case side1 => refine (Kd.S_reads' (e := 131) (base := w.heap.size) (ok := fun k_ => (some k_ ≠ (.slice Ao13 t1442.length co13 : Value).ownBlock ∧ some k_ ≠ (.slice Ao49 t1460.length co49 : Value).ownBlock)) (n := t1445.length) (c := co48) ?_).2.2; exact (by (with_reducible repeat (first | apply yE | apply yF | apply yG)); exact (yH (yI (p := ⟨gb1465, 1, none⟩) (yI (p := ⟨gb1465, 0, none⟩) (Kd.S_types HO_6.out BK1465.out (by decide)) (fun _ hk => hk.2) (.int .i64 t1463)) (fun _ hk => hk.2) (.int .i64 t1464)) (fun _ h_ => h_.1)))); (case side2 => exact (Kd.S_reads' HO_6.out).2.1); (case side3 => refine (Kd.S_reads' (e := 131) (base := w.heap.size) (ok := fun k_ => ((True ∧ some k_ ≠ (.slice Ao13 t1442.length co13 : Value).ownBlock) ∧ some k_ ≠ (.slice Ao48 t1445.length co48 : Value).ownBlock)) (n := t1460.length) (c := co49) ?_).2.2; exact (by (with_reducible repeat (first | apply yE | apply yF | apply yG)); exact (yH (yI (p := ⟨gb1465, 1, none⟩) (yI (p := ⟨gb1465, 0, none⟩) (Kd.S_types HO1462.out BK1465.out (by decide)) (fun _ hk => hk.2) (.int .i64 t1463)) (fun _ hk => hk.2) (.int .i64 t1464)) (fun _ h_ => h_.1)))); (case side4 => exact (Kd.S_reads' HO1462.out).2.1); rintro e w' ⟨rfl, ⟨nd, rfl⟩⟩))
           go_meet
           case rel => exact ⟨_, (!t1466), (by first | rfl | (simp; done) | (simp [*]; done)), H', ⟨by have := HJ2.out; have := HJ10.out; first | omega | exact Nat.le_refl _⟩, ⟨by (with_reducible repeat (first | apply zN | apply zM | apply zO)); exact zP (Kd.R_far (p := ⟨gb1465, 1, none⟩) (Kd.R_far (p := ⟨gb1465, 0, none⟩) (zY HO_5.out BK1465.out (by decide)) (fun _ hk => hk.2) (.int .i64 t1463)) (fun _ hk => hk.2) (.int .i64 t1464)) (fun _ hk => trivial)⟩, ⟨by (with_reducible repeat (first | apply yE | apply yF | apply yG)); exact yH (yI (p := ⟨gb1465, 1, none⟩) (yI (p := ⟨gb1465, 0, none⟩) (Kd.S_types HO1462.out BK1465.out (by decide)) (fun _ hk => hk.2) (.int .i64 t1463)) (fun _ hk => hk.2) (.int .i64 t1464)) (fun _ hk => hk.1.1.2)⟩, ⟨by (with_reducible repeat (first | refine zG ?_ _ | refine zH ?_ | refine zD ?_ _)); refine blk_far ?_ NB1451_1465.out _; (with_reducible repeat (first | refine zG ?_ _ | refine zH ?_ | refine zD ?_ _)); refine blk_far ?_ NB1451_1465.out _; (with_reducible repeat (first | refine zG ?_ _ | refine zH ?_ | refine zD ?_ _)); exact BK1451.out⟩, ⟨by (with_reducible repeat (first | refine zG ?_ _ | refine zH ?_ | refine zD ?_ _)); refine blk_far ?_ NB1458_1465.out _; (with_reducible repeat (first | refine zG ?_ _ | refine zH ?_ | refine zD ?_ _)); refine blk_far ?_ NB1458_1465.out _; (with_reducible repeat (first | refine zG ?_ _ | refine zH ?_ | refine zD ?_ _)); exact BK1458.out⟩, ⟨by (with_reducible repeat (first | refine zG ?_ _ | refine zH ?_ | refine zD ?_ _)); refine blk_put (cs := #[.int .i64 t1463, .int .i64 0]) ?_ 1 _ rfl; (with_reducible repeat (first | refine zG ?_ _ | refine zH ?_ | refine zD ?_ _)); refine blk_put (cs := #[.int .i64 0, .int .i64 0]) ?_ 0 _ rfl; (with_reducible repeat (first | refine zG ?_ _ | refine zH ?_ | refine zD ?_ _)); exact BK1465.out⟩, ⟨by repeat (first | (with_reducible first | exact HB.out | apply zC | apply zB | apply zF | refine zE ?_ GE1451.out | refine zE ?_ GE1458.out | refine zE ?_ GE1465.out) | exact HB.out)⟩⟩
          ·rw [if_neg c43] at H
           have c43b0 : (t1449 == 0) = false := beq_eq_false_iff_ne.mpr c43
           have c43b1 : (t1449 != 0) = true := bne_iff_ne.mpr c43
           (first | rw [c43b0] | (simp only [i64_w, i32_w]; rw [c43b0]) | skip)
           have H' := zA H
           clear H
           have hnb50 := NB1451_1458.out
           have hnc50 := NB1458_1451.out
           have hnb51 := NB1451_1465.out
           have hnc51 := NB1465_1451.out
           have hcz52_0 : w38.cell? ⟨gb1451, 0, none⟩ = some (.int .i64 t1449) := (zK BK1451.out 0).trans rfl
           have hcz52_1 : w38.cell? ⟨gb1451, 1, none⟩ = some (.int .i64 t1450) := (zK BK1451.out 1).trans rfl
           have hfz52_0 := zJ BK1451.out 0
           have hfz52_1 := zJ BK1451.out 1
           go_wp2
           go_meet
           case rel => exact ⟨_, (true), (by first | rfl | (simp; done) | (simp [*]; done)), H', ⟨by have := HJ2.out; have := HJ10.out; first | omega | exact Nat.le_refl _⟩, ⟨by (with_reducible repeat (first | apply zN | apply zM | apply zO)); exact zP (Kd.R_far (p := ⟨gb1465, 1, none⟩) (Kd.R_far (p := ⟨gb1465, 0, none⟩) (zY HO_5.out BK1465.out (by decide)) (fun _ hk => hk.2) (.int .i64 t1463)) (fun _ hk => hk.2) (.int .i64 t1464)) (fun _ hk => trivial)⟩, ⟨by (with_reducible repeat (first | apply yE | apply yF | apply yG)); exact yH (yI (p := ⟨gb1465, 1, none⟩) (yI (p := ⟨gb1465, 0, none⟩) (Kd.S_types HO1462.out BK1465.out (by decide)) (fun _ hk => hk.2) (.int .i64 t1463)) (fun _ hk => hk.2) (.int .i64 t1464)) (fun _ hk => hk.1.1.2)⟩, ⟨by (with_reducible repeat (first | refine zG ?_ _ | refine zH ?_ | refine zD ?_ _)); refine blk_far ?_ NB1451_1465.out _; (with_reducible repeat (first | refine zG ?_ _ | refine zH ?_ | refine zD ?_ _)); refine blk_far ?_ NB1451_1465.out _; (with_reducible repeat (first | refine zG ?_ _ | refine zH ?_ | refine zD ?_ _)); exact BK1451.out⟩, ⟨by (with_reducible repeat (first | refine zG ?_ _ | refine zH ?_ | refine zD ?_ _)); refine blk_far ?_ NB1458_1465.out _; (with_reducible repeat (first | refine zG ?_ _ | refine zH ?_ | refine zD ?_ _)); refine blk_far ?_ NB1458_1465.out _; (with_reducible repeat (first | refine zG ?_ _ | refine zH ?_ | refine zD ?_ _)); exact BK1458.out⟩, ⟨by (with_reducible repeat (first | refine zG ?_ _ | refine zH ?_ | refine zD ?_ _)); refine blk_put (cs := #[.int .i64 t1463, .int .i64 0]) ?_ 1 _ rfl; (with_reducible repeat (first | refine zG ?_ _ | refine zH ?_ | refine zD ?_ _)); refine blk_put (cs := #[.int .i64 0, .int .i64 0]) ?_ 0 _ rfl; (with_reducible repeat (first | refine zG ?_ _ | refine zH ?_ | refine zD ?_ _)); exact BK1465.out⟩, ⟨by repeat (first | (with_reducible first | exact HB.out | apply zC | apply zB | apply zF | refine zE ?_ GE1451.out | refine zE ?_ GE1458.out | refine zE ?_ GE1465.out) | exact HB.out)⟩⟩
         ·replace c42 := Bool.eq_false_iff.mpr c42
          subst c42
          have H1 : (laws_FnSoFar.j2 kj10 l1 t1442 t1460 true) = some r := by rw [if_neg (show ¬ (false = true) by decide)] at H; exact H
          clear H
          have H := H1
          clear H1
          have H' := zA H
          clear H
          go_wp2
          go_meet
          case rel => exact ⟨_, (true), (by first | rfl | (simp; done) | (simp [*]; done)), H', ⟨by have := HJ2.out; have := HJ10.out; first | omega | exact Nat.le_refl _⟩, ⟨by (with_reducible repeat (first | apply zN | apply zM | apply zO)); exact zP (Kd.R_far (p := ⟨gb1465, 1, none⟩) (Kd.R_far (p := ⟨gb1465, 0, none⟩) (zY HO_5.out BK1465.out (by decide)) (fun _ hk => hk.2) (.int .i64 t1463)) (fun _ hk => hk.2) (.int .i64 t1464)) (fun _ hk => trivial)⟩, ⟨by (with_reducible repeat (first | apply yE | apply yF | apply yG)); exact yH (yI (p := ⟨gb1465, 1, none⟩) (yI (p := ⟨gb1465, 0, none⟩) (Kd.S_types HO1462.out BK1465.out (by decide)) (fun _ hk => hk.2) (.int .i64 t1463)) (fun _ hk => hk.2) (.int .i64 t1464)) (fun _ hk => hk.1.1.2)⟩, ⟨by (with_reducible repeat (first | refine zG ?_ _ | refine zH ?_ | refine zD ?_ _)); refine blk_far ?_ NB1451_1465.out _; (with_reducible repeat (first | refine zG ?_ _ | refine zH ?_ | refine zD ?_ _)); refine blk_far ?_ NB1451_1465.out _; (with_reducible repeat (first | refine zG ?_ _ | refine zH ?_ | refine zD ?_ _)); exact BK1451.out⟩, ⟨by (with_reducible repeat (first | refine zG ?_ _ | refine zH ?_ | refine zD ?_ _)); refine blk_far ?_ NB1458_1465.out _; (with_reducible repeat (first | refine zG ?_ _ | refine zH ?_ | refine zD ?_ _)); refine blk_far ?_ NB1458_1465.out _; (with_reducible repeat (first | refine zG ?_ _ | refine zH ?_ | refine zD ?_ _)); exact BK1458.out⟩, ⟨by (with_reducible repeat (first | refine zG ?_ _ | refine zH ?_ | refine zD ?_ _)); refine blk_put (cs := #[.int .i64 t1463, .int .i64 0]) ?_ 1 _ rfl; (with_reducible repeat (first | refine zG ?_ _ | refine zH ?_ | refine zD ?_ _)); refine blk_put (cs := #[.int .i64 0, .int .i64 0]) ?_ 0 _ rfl; (with_reducible repeat (first | refine zG ?_ _ | refine zH ?_ | refine zD ?_ _)); exact BK1465.out⟩, ⟨by repeat (first | (with_reducible first | exact HB.out | apply zC | apply zB | apply zF | refine zE ?_ GE1451.out | refine zE ?_ GE1458.out | refine zE ?_ GE1465.out) | exact HB.out)⟩⟩
        case rest =>
         clear HC36
         try clear c1
         try clear c2
         try clear p2
         try clear c3
         try clear c4
         try clear c5
         try clear c7
         try clear c14
         try clear c19
         try clear c22
         try clear c23
         try clear c23b0
         try clear c23b1
         try clear c23b2
         try clear c24
         try clear c28
         try clear c33
         try clear c35
         try clear c35b0
         try clear c35b1
         try clear c39
         try clear c40
         try clear c42
         try clear c43
         try clear c43b0
         try clear c43b1
         try clear c45
         try clear c46
         try clear c50
         try clear c51
         try clear hcz16_0
         try clear hcz16_1
         try clear hcz20_0
         try clear hcz20_1
         try clear hcz29_0
         try clear hcz29_1
         try clear hcz30_0
         try clear hcz30_1
         try clear hcz41_0
         try clear hcz41_1
         try clear hcz47_0
         try clear hcz47_1
         try clear hcz52_0
         try clear hcz52_1
         try clear hfz16_0
         try clear hfz16_1
         try clear hfz20_0
         try clear hfz20_1
         try clear hfz29_0
         try clear hfz29_1
         try clear hfz30_0
         try clear hfz30_1
         try clear hfz41_0
         try clear hfz41_1
         try clear hfz47_0
         try clear hfz47_1
         try clear hfz52_0
         try clear hfz52_1
         try clear p2
         obtain ⟨kq, x78_35, rfl, HA, HJ35, HO_5, HO_12, BK1451, BK1458, BK1465, HB⟩ := hcut
         cases kq with
         | zero => exact absurd HA.out (by simp [laws_FnSoFar.j2])
         | succ kj35 =>
          have H := HA.out
          clear HA
          simp only [laws_FnSoFar.j2] at H
          by_cases c53 : x78_35 = true
          ·subst c53
           have H1 : (some false) = some r := by rw [if_pos rfl] at H; exact H
           clear H
           have H := H1
           clear H1
           obtain rfl := Option.some.inj H
           go_wp2
           go_ret
           exact ⟨by first | rfl | (simp [errW_none, errW_some] <;> rfl) | (simp [*, errW_none, errW_some] <;> rfl), by repeat (first | (with_reducible first | exact HB.out | apply zC | apply zB | apply zF | refine zE ?_ GE1451.out | refine zE ?_ GE1458.out | refine zE ?_ GE1465.out) | exact HB.out)⟩
          ·replace c53 := Bool.eq_false_iff.mpr c53
           subst c53
           have H1 : ((laws_pick.f kj35 l1 0 (t1442.length : Int)).bind fun t1467 => (if 0 ≤ t1467 then (if t1467 ≤ (t1442.length : Int) then ((impl_SegsSoFar.f (t1442.take (t1467 : Int).toNat)).bind fun bt1472 => (if bt1472.2.1 = true then (some false) else (if bt1472.2.2.1 = 0 then (if (bt1472.1.length : Int) ≤ (t1460.length : Int) then (if 0 ≤ (bt1472.1.length : Int) then ((laws_sameSegs.f kj35 bt1472.1 (t1460.take ((bt1472.1.length : Int) : Int).toNat)).bind fun t1483 => (some t1483)) else (none)) else (some false)) else (some false)))) else (none)) else (none))) = some r := by rw [if_neg (show ¬ (false = true) by decide)] at H; exact H
           clear H
           have H := H1
           clear H1
           replace H := Option.bind_eq_some_iff.mp H
           obtain ⟨t1467, A540, H⟩ := H
           replace H : (if 0 ≤ t1467 then (if t1467 ≤ (t1442.length : Int) then ((impl_SegsSoFar.f (t1442.take (t1467 : Int).toNat)).bind fun bt1472 => (if bt1472.2.1 = true then (some false) else (if bt1472.2.2.1 = 0 then (if (bt1472.1.length : Int) ≤ (t1460.length : Int) then (if 0 ≤ (bt1472.1.length : Int) then ((laws_sameSegs.f kj35 bt1472.1 (t1460.take ((bt1472.1.length : Int) : Int).toNat)).bind fun t1483 => (some t1483)) else (none)) else (some false)) else (some false)))) else (none)) else (none)) = some r := H
           have A54 := zA A540
           clear A540
           by_cases c55 : 0 ≤ t1467
           ·rw [if_pos c55] at H
            have c55b0 := eq_true c55
            have c55b1 : decide (0 ≤ t1467) = true := zT c55
            clear c55
            by_cases c56 : t1467 ≤ (t1442.length : Int)
            ·rw [if_pos c56] at H
             have c56b0 := eq_true c56
             have c56b1 : decide (t1467 ≤ (t1442.length : Int)) = true := zT c56
             clear c56
             obtain ⟨y1468, hy1468⟩ : ∃ y_ : List Int, y_ = (t1442.take (t1467 : Int).toNat) := ⟨_, rfl⟩
             replace H : ((impl_SegsSoFar.f y1468).bind fun bt1472 => (if bt1472.2.1 = true then (some false) else (if bt1472.2.2.1 = 0 then (if (bt1472.1.length : Int) ≤ (t1460.length : Int) then (if 0 ≤ (bt1472.1.length : Int) then ((laws_sameSegs.f kj35 bt1472.1 (t1460.take ((bt1472.1.length : Int) : Int).toNat)).bind fun t1483 => (some t1483)) else (none)) else (some false)) else (some false)))) = some r := by first | (rw [hy1468]; with_reducible exact H) | (have H2_ := (zS _ _).symm.trans H; rw [hy1468]; with_reducible exact H2_) | (have H2_ := (zS _ _).symm.trans H; with_reducible exact H2_) | with_reducible exact H | (rw [hy1468]; exact H) | exact H
             have Ny1468 := zA hy1468
             clear hy1468
             replace H := Option.bind_eq_some_iff.mp H
             obtain ⟨⟨t1472, t1475, t1476, t1477⟩, A570, H⟩ := H
             replace H : (if t1475 = true then (some false) else (if t1476 = 0 then (if (t1472.length : Int) ≤ (t1460.length : Int) then (if 0 ≤ (t1472.length : Int) then ((laws_sameSegs.f kj35 t1472 (t1460.take ((t1472.length : Int) : Int).toNat)).bind fun t1483 => (some t1483)) else (none)) else (some false)) else (some false))) = some r := H
             have A57 := zA A570
             clear A570
             by_cases c58 : t1475 = true
             ·subst c58
              have H1 : (some false) = some r := by rw [if_pos rfl] at H; exact H
              clear H
              have H := H1
              clear H1
              obtain rfl := Option.some.inj H
              go_wp2_with (first | ((with_reducible refine gate_callee (f := 76) rfl ?_); refine goesL_ (some 84) rfl rfl Try.func76 (by kernel_rfl) rfl #[.slice A1 l1.length c1, .int .i64 0, .int .i64 (t1442.length : Int)] rfl (by (try simp only [zU, zV, zW]); first | done | rfl | (simp only [zR, zQ]; rfl)) ?_; (with_reducible refine (laws_pick.calls kj35 _ _ l1 0 (t1442.length : Int) t1467 _ ?side1 ?side2 A54.out).mono ?_); (case side1 => repeat (first | exact (Kd.C_below HR1.out HB.out) | (with_reducible refine yN ?_ _) | (with_reducible refine yL ?_ _) | (with_reducible refine yM ?_))); (case side2 => exact HC1.out); rintro e w' ⟨rfl, ⟨nd, rfl⟩⟩; refine ⟨_, rfl, ?_⟩; (try (rw [drewN_self wc]; generalize hq_ : World.drewN wc _ = wc; have n0_ : Aside0 (Kd.S k131 131 wc w.heap.size (fun k_ => some k_ ≠ (.slice Ao13 t1442.length co13 : Value).ownBlock) v1461 t1460) := ⟨by rw [← hq_]; exact (by (with_reducible repeat (first | apply yE | apply yF | apply yG)); exact HO_12.out)⟩; have n1_ : Aside0 (Kd.R (Kd.int .u8) 5 wc w.heap.size (fun _ => True) (.slice Ao13 t1442.length co13) t1442) := ⟨by rw [← hq_]; exact (by (with_reducible repeat (first | apply zN | apply zM | apply zO)); exact HO_5.out)⟩; have n2_ : Aside0 (wc.heap[gb1451]? = some (.cells #[.int .i64 t1449, .int .i64 t1450] 65 (0, 0))) := ⟨by rw [← hq_]; exact (by (with_reducible repeat (first | refine zG ?_ _ | refine zH ?_ | refine zD ?_ _)); exact BK1451.out)⟩; have n3_ : Aside0 (wc.heap[gb1458]? = some (.cells #[.int .i64 t1456, .int .i64 t1457] 65 (0, 0))) := ⟨by rw [← hq_]; exact (by (with_reducible repeat (first | refine zG ?_ _ | refine zH ?_ | refine zD ?_ _)); exact BK1458.out)⟩; have n4_ : Aside0 (wc.heap[gb1465]? = some (.cells #[.int .i64 t1463, .int .i64 t1464] 65 (0, 0))) := ⟨by rw [← hq_]; exact (by (with_reducible repeat (first | refine zG ?_ _ | refine zH ?_ | refine zD ?_ _)); exact BK1465.out)⟩; have n5_ : Aside0 (Below w.heap.size w wc) := ⟨by rw [← hq_]; exact (by repeat (first | (with_reducible first | exact HB.out | apply zC | apply zB | apply zF | refine zE ?_ GE1451.out | refine zE ?_ GE1458.out | refine zE ?_ GE1465.out) | exact HB.out))⟩; clear HO_12 HO_5 BK1451 BK1458 BK1465 HB hq_; have HO_12 := n0_; have HO_5 := n1_; have BK1451 := n2_; have BK1458 := n3_; have BK1465 := n4_; have HB := n5_; clear n0_ n1_ n2_ n3_ n4_ n5_)); have q59 : (t1467 : Int) ≤ ((t1442.length : Int) : Int) := zI (by first | (with_reducible assumption) | assumption); obtain ⟨i059, hi059, _, hsz59, _⟩ := info_parts info5; have hroom59 : t1442.length ≤ co13 := (yK HO_5.out).2.1; have hC59 : Kd.C (Kd.int .u8) _ Ao13 t1442.length t1442 := (yK HO_5.out).2.2; have hcut59 := cut_to (P := Try.prog) 23 5 .i64 Try.underlying23 hi059 Ao13 t1442.length co13 t1467 (zI (by first | (with_reducible assumption) | assumption)) q59 hroom59; have hr59 := Kd.C_take (m := (t1467 : Int).toNat) hC59 (by omega); have hy59 : y1468.length = (t1467 : Int).toNat := (by rw [Ny1468.out, zQ]; omega); rw [← Ny1468.out] at hr59; rw [← hy59] at hcut59; have HR1471 := zA hr59; have HC1471 := zA (show y1468.length ≤ co13 from by omega); clear hr59 hC59 hroom59 hi059 hsz59; have KY59 := zA hy59; clear hy59; have KL59 := zA (show (t1467 : Int).toNat ≤ t1442.length from by omega); replace q59 := eq_true q59) | ((with_reducible refine gate_callee (f := 59) rfl ?_); refine goesL_ (some 86) rfl rfl Try.func59 (by kernel_rfl) rfl #[.slice Ao13 y1468.length co13] rfl (by (try simp only [zU, zV, zW]); first | done | rfl | (simp only [zR, zQ]; rfl)) ?_; (with_reducible refine (impl_SegsSoFar.calls _ _ y1468 t1472 true t1476 t1477 _ ?side1 ?side2 A57.out).mono ?_); (case side1 => repeat (first | exact (by repeat (first | (with_reducible exact HR1471.out) | (with_reducible refine yN ?_ _) | (with_reducible refine yL ?_ _) | (with_reducible refine yM ?_) | exact HR1471.out)) | (with_reducible refine yN ?_ _) | (with_reducible refine yL ?_ _) | (with_reducible refine yM ?_))); (case side2 => exact HC1471.out); rintro e w60 ⟨v1473, rfl, ho0, hb⟩; refine ⟨_, rfl, ?_⟩; have n0_ := zA (Kd.R_below (by (with_reducible repeat (first | apply zN | apply zM | apply zO)); exact HO_5.out) hb); have n1_ := zA (Kd.S_elder' (by (with_reducible repeat (first | apply yE | apply yF | apply yG)); exact HO_12.out) (Kd.S_base ho0) hb); have n2_ := zA (Kd.S_lower (Kd.S_new' (Kd.S_new' ho0 (Kd.R_lt (by (with_reducible repeat (first | apply zN | apply zM | apply zO)); exact HO_5.out))) (Kd.S_lt (by (with_reducible repeat (first | apply yE | apply yF | apply yG)); exact HO_12.out))) (zL (by repeat (first | (with_reducible first | exact HB.out | apply zC | apply zB | apply zF | refine zE ?_ GE1451.out | refine zE ?_ GE1458.out | refine zE ?_ GE1465.out) | exact HB.out)))); have n3_ := zA (blk_below (g := gb1451) (o := .cells #[.int .i64 t1449, .int .i64 t1450] 65 (0, 0)) (by (with_reducible repeat (first | refine zG ?_ _ | refine zH ?_ | refine zD ?_ _)); exact BK1451.out) hb); have n4_ := zA (blk_below (g := gb1458) (o := .cells #[.int .i64 t1456, .int .i64 t1457] 65 (0, 0)) (by (with_reducible repeat (first | refine zG ?_ _ | refine zH ?_ | refine zD ?_ _)); exact BK1458.out) hb); have n5_ := zA (blk_below (g := gb1465) (o := .cells #[.int .i64 t1463, .int .i64 t1464] 65 (0, 0)) (by (with_reducible repeat (first | refine zG ?_ _ | refine zH ?_ | refine zD ?_ _)); exact BK1465.out) hb); have n6_ := zA (Kd.C_below (by repeat (first | (with_reducible exact HR1471.out) | (with_reducible refine yN ?_ _) | (with_reducible refine yL ?_ _) | (with_reducible refine yM ?_) | exact HR1471.out)) hb); have n7_ := zA (below_step (by repeat (first | (with_reducible first | exact HB.out | apply zC | apply zB | apply zF | refine zE ?_ GE1451.out | refine zE ?_ GE1458.out | refine zE ?_ GE1465.out) | exact HB.out)) hb); clear HO_5; clear HO_12; clear BK1451; clear BK1458; clear BK1465; clear HR1471; clear HB; have HO_5 := n0_; have HO_12 := n1_; have HO1474 := n2_; have BK1451 := n3_; have BK1458 := n4_; have BK1465 := n5_; have HR1471 := n6_; have HB := n7_; clear n0_ n1_ n2_ n3_ n4_ n5_ n6_ n7_; (try clear hb); (try clear hb2); (try clear hk); (try clear hi); (try clear ho0)) | ((with_reducible refine gate_dst (N := 16) rfl ?_); (try (refine gate_guard (by rfl) ?_; dsimp only)); refine box_event ?hg (N := 16) ?hd (cs := #[.int .i64 0, .int .i64 0]) (t := 65) ?hr ?_; (case hd => rfl); (case hg => rfl); (case hr => first | (go_simp; done) | (go_simp; rfl)); intro gb1478 hg w61 hbox hb; have n0_ := zA (Kd.R_below (by (with_reducible repeat (first | apply zN | apply zM | apply zO)); exact HO_5.out) hb); have n1_ := zA (Kd.S_below (by (with_reducible repeat (first | apply yE | apply yF | apply yG)); exact HO_12.out) hb); have n2_ := zA (Kd.S_below (by (with_reducible repeat (first | apply yE | apply yF | apply yG)); exact HO1474.out) hb); have n3_ := zA (blk_below (g := gb1451) (o := .cells #[.int .i64 t1449, .int .i64 t1450] 65 (0, 0)) (by (with_reducible repeat (first | refine zG ?_ _ | refine zH ?_ | refine zD ?_ _)); exact BK1451.out) hb); have n4_ := zA (blk_below (g := gb1458) (o := .cells #[.int .i64 t1456, .int .i64 t1457] 65 (0, 0)) (by (with_reducible repeat (first | refine zG ?_ _ | refine zH ?_ | refine zD ?_ _)); exact BK1458.out) hb); have n5_ := zA (blk_below (g := gb1465) (o := .cells #[.int .i64 t1463, .int .i64 t1464] 65 (0, 0)) (by (with_reducible repeat (first | refine zG ?_ _ | refine zH ?_ | refine zD ?_ _)); exact BK1465.out) hb); have n6_ := zA (Kd.C_below (by repeat (first | (with_reducible exact HR1471.out) | (with_reducible refine yN ?_ _) | (with_reducible refine yL ?_ _) | (with_reducible refine yM ?_) | exact HR1471.out)) hb); have n7_ := zA (below_step (by repeat (first | (with_reducible first | exact HB.out | apply zC | apply zB | apply zF | refine zE ?_ GE1451.out | refine zE ?_ GE1458.out | refine zE ?_ GE1465.out) | exact HB.out)) hb); have n8_ := zA (hbox); have n9_ := zA ((by rw [hg]; exact (zL (by repeat (first | (with_reducible first | exact HB.out | apply zC | apply zB | apply zF | refine zE ?_ GE1451.out | refine zE ?_ GE1458.out | refine zE ?_ GE1465.out) | exact HB.out))) : w.heap.size ≤ gb1478)); have n10_ := zA ((by rw [hg]; exact (zL (by repeat (first | (with_reducible first | exact HB.out | apply zC | apply zB | apply zF | refine zE ?_ GE1451.out | refine zE ?_ GE1458.out | refine zE ?_ GE1465.out) | exact HB.out))) : w.heap.size ≤ gb1478)); have n11_ := zA ((by rw [hg]; exact Nat.ne_of_lt (blk_lt (g := gb1451) (o := .cells #[.int .i64 t1449, .int .i64 t1450] 65 (0, 0)) (by (with_reducible repeat (first | refine zG ?_ _ | refine zH ?_ | refine zD ?_ _)); exact BK1451.out)) : gb1451 ≠ gb1478)); have n12_ := zA ((by rw [hg]; exact Nat.ne_of_gt (blk_lt (g := gb1451) (o := .cells #[.int .i64 t1449, .int .i64 t1450] 65 (0, 0)) (by (with_reducible repeat (first | refine zG ?_ _ | refine zH ?_ | refine zD ?_ _)); exact BK1451.out)) : gb1478 ≠ gb1451)); have n13_ := zA ((by rw [hg]; exact Nat.ne_of_lt (blk_lt (g := gb1458) (o := .cells #[.int .i64 t1456, .int .i64 t1457] 65 (0, 0)) (by (with_reducible repeat (first | refine zG ?_ _ | refine zH ?_ | refine zD ?_ _)); exact BK1458.out)) : gb1458 ≠ gb1478)); have n14_ := zA ((by rw [hg]; exact Nat.ne_of_gt (blk_lt (g := gb1458) (o := .cells #[.int .i64 t1456, .int .i64 t1457] 65 (0, 0)) (by (with_reducible repeat (first | refine zG ?_ _ | refine zH ?_ | refine zD ?_ _)); exact BK1458.out)) : gb1478 ≠ gb1458)); have n15_ := zA ((by rw [hg]; exact Nat.ne_of_lt (blk_lt (g := gb1465) (o := .cells #[.int .i64 t1463, .int .i64 t1464] 65 (0, 0)) (by (with_reducible repeat (first | refine zG ?_ _ | refine zH ?_ | refine zD ?_ _)); exact BK1465.out)) : gb1465 ≠ gb1478)); have n16_ := zA ((by rw [hg]; exact Nat.ne_of_gt (blk_lt (g := gb1465) (o := .cells #[.int .i64 t1463, .int .i64 t1464] 65 (0, 0)) (by (with_reducible repeat (first | refine zG ?_ _ | refine zH ?_ | refine zD ?_ _)); exact BK1465.out)) : gb1478 ≠ gb1465)); clear HO_5; clear HO_12; clear HO1474; clear BK1451; clear BK1458; clear BK1465; clear HR1471; clear HB; have HO_5 := n0_; have HO_12 := n1_; have HO1474 := n2_; have BK1451 := n3_; have BK1458 := n4_; have BK1465 := n5_; have HR1471 := n6_; have HB := n7_; have BK1478 := n8_; have GW1478 := n9_; have GE1478 := n10_; have NB1451_1478 := n11_; have NB1478_1451 := n12_; have NB1458_1478 := n13_; have NB1478_1458 := n14_; have NB1465_1478 := n15_; have NB1478_1465 := n16_; clear n0_ n1_ n2_ n3_ n4_ n5_ n6_ n7_ n8_ n9_ n10_ n11_ n12_ n13_ n14_ n15_ n16_; clear hb hbox hg; have hnb62 := NB1478_1451.out; have hnc62 := NB1451_1478.out; have hnb63 := NB1478_1458.out; have hnc63 := NB1458_1478.out; have hnb64 := NB1478_1465.out; have hnc64 := NB1465_1478.out; have hcz65_0 : w61.cell? ⟨gb1478, 0, none⟩ = some (.int .i64 0) := (zK BK1478.out 0).trans rfl; have hcz65_1 : w61.cell? ⟨gb1478, 1, none⟩ = some (.int .i64 0) := (zK BK1478.out 1).trans rfl; have hfz65_0 := zJ BK1478.out 0; have hfz65_1 := zJ BK1478.out 1))
              go_ret
              exact ⟨by first | rfl | (simp [errW_none, errW_some] <;> rfl) | (simp [*, errW_none, errW_some] <;> rfl), by repeat (first | (with_reducible first | exact HB.out | apply zC | apply zB | apply zF | refine zE ?_ GE1451.out | refine zE ?_ GE1458.out | refine zE ?_ GE1465.out | refine zE ?_ GE1478.out) | exact HB.out)⟩
             ·replace c58 := Bool.eq_false_iff.mpr c58
              subst c58
              have H1 : (if t1476 = 0 then (if (t1472.length : Int) ≤ (t1460.length : Int) then (if 0 ≤ (t1472.length : Int) then ((laws_sameSegs.f kj35 t1472 (t1460.take ((t1472.length : Int) : Int).toNat)).bind fun t1483 => (some t1483)) else (none)) else (some false)) else (some false)) = some r := by rw [if_neg (show ¬ (false = true) by decide)] at H; exact H
              clear H
              have H := H1
              clear H1
              by_cases c66 : t1476 = 0
              ·rw [if_pos c66] at H
               have c66b0 : (t1476 == 0) = true := beq_iff_eq.mpr c66
               have c66b1 : (t1476 != 0) = false := bne_eq_false_iff_eq.mpr c66
               clear c66
               by_cases c67 : (t1472.length : Int) ≤ (t1460.length : Int)
               ·rw [if_pos c67] at H
                have c67b0 : decide ((t1472.length : Int) ≤ (t1460.length : Int)) = true := zT c67
                have c67b1 : decide (t1472.length ≤ t1460.length) = true := zT (Int.ofNat_le.mp c67)
                clear c67
                by_cases c68 : 0 ≤ (t1472.length : Int)
                ·rw [if_pos c68] at H
                 have c68b0 := eq_true c68
                 have c68b1 : decide (0 ≤ (t1472.length : Int)) = true := zT c68
                 clear c68
                 have c69b0 := eq_true (zI (by first | (with_reducible assumption) | assumption) : (t1472.length : Int) ≤ (t1460.length : Int))
                 obtain ⟨y1479, hy1479⟩ : ∃ y_ : List (S131), y_ = (t1460.take ((t1472.length : Int) : Int).toNat) := ⟨_, rfl⟩
                 replace H : ((laws_sameSegs.f kj35 t1472 y1479).bind fun t1483 => (some t1483)) = some r := by first | (rw [hy1479]; with_reducible exact H) | (have H2_ := (zS _ _).symm.trans H; rw [hy1479]; with_reducible exact H2_) | (have H2_ := (zS _ _).symm.trans H; with_reducible exact H2_) | with_reducible exact H | (rw [hy1479]; exact H) | exact H
                 have Ny1479 := zA hy1479
                 clear hy1479
                 replace H := Option.bind_eq_some_iff.mp H
                 obtain ⟨t1483, A700, H⟩ := H
                 replace H : (some t1483) = some r := H
                 have A70 := zA A700
                 clear A700
                 obtain rfl := Option.some.inj H
                 go_wp2_with (first | ((with_reducible refine gate_callee (f := 76) rfl ?_); refine goesL_ (some 84) rfl rfl Try.func76 (by kernel_rfl) rfl #[.slice A1 l1.length c1, .int .i64 0, .int .i64 (t1442.length : Int)] rfl (by (try simp only [zU, zV, zW]); first | done | rfl | (simp only [zR, zQ]; rfl)) ?_; (with_reducible refine (laws_pick.calls kj35 _ _ l1 0 (t1442.length : Int) t1467 _ ?side1 ?side2 A54.out).mono ?_); (case side1 => repeat (first | exact (Kd.C_below HR1.out HB.out) | (with_reducible refine yN ?_ _) | (with_reducible refine yL ?_ _) | (with_reducible refine yM ?_))); (case side2 => exact HC1.out); rintro e w' ⟨rfl, ⟨nd, rfl⟩⟩; refine ⟨_, rfl, ?_⟩; (try (rw [drewN_self wc]; generalize hq_ : World.drewN wc _ = wc; have n0_ : Aside0 (Kd.S k131 131 wc w.heap.size (fun k_ => some k_ ≠ (.slice Ao13 t1442.length co13 : Value).ownBlock) v1461 t1460) := ⟨by rw [← hq_]; exact (by (with_reducible repeat (first | apply yE | apply yF | apply yG)); exact HO_12.out)⟩; have n1_ : Aside0 (Kd.R (Kd.int .u8) 5 wc w.heap.size (fun _ => True) (.slice Ao13 t1442.length co13) t1442) := ⟨by rw [← hq_]; exact (by (with_reducible repeat (first | apply zN | apply zM | apply zO)); exact HO_5.out)⟩; have n2_ : Aside0 (wc.heap[gb1451]? = some (.cells #[.int .i64 t1449, .int .i64 t1450] 65 (0, 0))) := ⟨by rw [← hq_]; exact (by (with_reducible repeat (first | refine zG ?_ _ | refine zH ?_ | refine zD ?_ _)); exact BK1451.out)⟩; have n3_ : Aside0 (wc.heap[gb1458]? = some (.cells #[.int .i64 t1456, .int .i64 t1457] 65 (0, 0))) := ⟨by rw [← hq_]; exact (by (with_reducible repeat (first | refine zG ?_ _ | refine zH ?_ | refine zD ?_ _)); exact BK1458.out)⟩; have n4_ : Aside0 (wc.heap[gb1465]? = some (.cells #[.int .i64 t1463, .int .i64 t1464] 65 (0, 0))) := ⟨by rw [← hq_]; exact (by (with_reducible repeat (first | refine zG ?_ _ | refine zH ?_ | refine zD ?_ _)); exact BK1465.out)⟩; have n5_ : Aside0 (Below w.heap.size w wc) := ⟨by rw [← hq_]; exact (by repeat (first | (with_reducible first | exact HB.out | apply zC | apply zB | apply zF | refine zE ?_ GE1451.out | refine zE ?_ GE1458.out | refine zE ?_ GE1465.out) | exact HB.out))⟩; clear HO_12 HO_5 BK1451 BK1458 BK1465 HB hq_; have HO_12 := n0_; have HO_5 := n1_; have BK1451 := n2_; have BK1458 := n3_; have BK1465 := n4_; have HB := n5_; clear n0_ n1_ n2_ n3_ n4_ n5_)); have q71 : (t1467 : Int) ≤ ((t1442.length : Int) : Int) := zI (by first | (with_reducible assumption) | assumption); obtain ⟨i071, hi071, _, hsz71, _⟩ := info_parts info5; have hroom71 : t1442.length ≤ co13 := (yK HO_5.out).2.1; have hC71 : Kd.C (Kd.int .u8) _ Ao13 t1442.length t1442 := (yK HO_5.out).2.2; have hcut71 := cut_to (P := Try.prog) 23 5 .i64 Try.underlying23 hi071 Ao13 t1442.length co13 t1467 (zI (by first | (with_reducible assumption) | assumption)) q71 hroom71; have hr71 := Kd.C_take (m := (t1467 : Int).toNat) hC71 (by omega); have hy71 : y1468.length = (t1467 : Int).toNat := (by rw [Ny1468.out, zQ]; omega); rw [← Ny1468.out] at hr71; rw [← hy71] at hcut71; have HR1471 := zA hr71; have HC1471 := zA (show y1468.length ≤ co13 from by omega); clear hr71 hC71 hroom71 hi071 hsz71; have KY71 := zA hy71; clear hy71; have KL71 := zA (show (t1467 : Int).toNat ≤ t1442.length from by omega); replace q71 := eq_true q71) | ((with_reducible refine gate_callee (f := 59) rfl ?_); refine goesL_ (some 86) rfl rfl Try.func59 (by kernel_rfl) rfl #[.slice Ao13 y1468.length co13] rfl (by (try simp only [zU, zV, zW]); first | done | rfl | (simp only [zR, zQ]; rfl)) ?_; (with_reducible refine (impl_SegsSoFar.calls _ _ y1468 t1472 false t1476 t1477 _ ?side1 ?side2 A57.out).mono ?_); (case side1 => repeat (first | exact (by repeat (first | (with_reducible exact HR1471.out) | (with_reducible refine yN ?_ _) | (with_reducible refine yL ?_ _) | (with_reducible refine yM ?_) | exact HR1471.out)) | (with_reducible refine yN ?_ _) | (with_reducible refine yL ?_ _) | (with_reducible refine yM ?_))); (case side2 => exact HC1471.out); rintro e w72 ⟨v1473, rfl, ho0, hb⟩; refine ⟨_, rfl, ?_⟩; have n0_ := zA (Kd.R_below (by (with_reducible repeat (first | apply zN | apply zM | apply zO)); exact HO_5.out) hb); have n1_ := zA (Kd.S_elder' (by (with_reducible repeat (first | apply yE | apply yF | apply yG)); exact HO_12.out) (Kd.S_base ho0) hb); have n2_ := zA (Kd.S_lower (Kd.S_new' (Kd.S_new' ho0 (Kd.R_lt (by (with_reducible repeat (first | apply zN | apply zM | apply zO)); exact HO_5.out))) (Kd.S_lt (by (with_reducible repeat (first | apply yE | apply yF | apply yG)); exact HO_12.out))) (zL (by repeat (first | (with_reducible first | exact HB.out | apply zC | apply zB | apply zF | refine zE ?_ GE1451.out | refine zE ?_ GE1458.out | refine zE ?_ GE1465.out) | exact HB.out)))); have n3_ := zA (blk_below (g := gb1451) (o := .cells #[.int .i64 t1449, .int .i64 t1450] 65 (0, 0)) (by (with_reducible repeat (first | refine zG ?_ _ | refine zH ?_ | refine zD ?_ _)); exact BK1451.out) hb); have n4_ := zA (blk_below (g := gb1458) (o := .cells #[.int .i64 t1456, .int .i64 t1457] 65 (0, 0)) (by (with_reducible repeat (first | refine zG ?_ _ | refine zH ?_ | refine zD ?_ _)); exact BK1458.out) hb); have n5_ := zA (blk_below (g := gb1465) (o := .cells #[.int .i64 t1463, .int .i64 t1464] 65 (0, 0)) (by (with_reducible repeat (first | refine zG ?_ _ | refine zH ?_ | refine zD ?_ _)); exact BK1465.out) hb); have n6_ := zA (Kd.C_below (by repeat (first | (with_reducible exact HR1471.out) | (with_reducible refine yN ?_ _) | (with_reducible refine yL ?_ _) | (with_reducible refine yM ?_) | exact HR1471.out)) hb); have n7_ := zA (below_step (by repeat (first | (with_reducible first | exact HB.out | apply zC | apply zB | apply zF | refine zE ?_ GE1451.out | refine zE ?_ GE1458.out | refine zE ?_ GE1465.out) | exact HB.out)) hb); clear HO_5; clear HO_12; clear BK1451; clear BK1458; clear BK1465; clear HR1471; clear HB; have HO_5 := n0_; have HO_12 := n1_; have HO1474 := n2_; have BK1451 := n3_; have BK1458 := n4_; have BK1465 := n5_; have HR1471 := n6_; have HB := n7_; clear n0_ n1_ n2_ n3_ n4_ n5_ n6_ n7_; (try clear hb); (try clear hb2); (try clear hk); (try clear hi); (try clear ho0)) | ((with_reducible refine gate_dst (N := 16) rfl ?_); (try (refine gate_guard (by rfl) ?_; dsimp only)); refine box_event ?hg (N := 16) ?hd (cs := #[.int .i64 0, .int .i64 0]) (t := 65) ?hr ?_; (case hd => rfl); (case hg => rfl); (case hr => first | (go_simp; done) | (go_simp; rfl)); intro gb1478 hg w73 hbox hb; have n0_ := zA (Kd.R_below (by (with_reducible repeat (first | apply zN | apply zM | apply zO)); exact HO_5.out) hb); have n1_ := zA (Kd.S_below (by (with_reducible repeat (first | apply yE | apply yF | apply yG)); exact HO_12.out) hb); have n2_ := zA (Kd.S_below (by (with_reducible repeat (first | apply yE | apply yF | apply yG)); exact HO1474.out) hb); have n3_ := zA (blk_below (g := gb1451) (o := .cells #[.int .i64 t1449, .int .i64 t1450] 65 (0, 0)) (by (with_reducible repeat (first | refine zG ?_ _ | refine zH ?_ | refine zD ?_ _)); exact BK1451.out) hb); have n4_ := zA (blk_below (g := gb1458) (o := .cells #[.int .i64 t1456, .int .i64 t1457] 65 (0, 0)) (by (with_reducible repeat (first | refine zG ?_ _ | refine zH ?_ | refine zD ?_ _)); exact BK1458.out) hb); have n5_ := zA (blk_below (g := gb1465) (o := .cells #[.int .i64 t1463, .int .i64 t1464] 65 (0, 0)) (by (with_reducible repeat (first | refine zG ?_ _ | refine zH ?_ | refine zD ?_ _)); exact BK1465.out) hb); have n6_ := zA (Kd.C_below (by repeat (first | (with_reducible exact HR1471.out) | (with_reducible refine yN ?_ _) | (with_reducible refine yL ?_ _) | (with_reducible refine yM ?_) | exact HR1471.out)) hb); have n7_ := zA (below_step (by repeat (first | (with_reducible first | exact HB.out | apply zC | apply zB | apply zF | refine zE ?_ GE1451.out | refine zE ?_ GE1458.out | refine zE ?_ GE1465.out) | exact HB.out)) hb); have n8_ := zA (hbox); have n9_ := zA ((by rw [hg]; exact (zL (by repeat (first | (with_reducible first | exact HB.out | apply zC | apply zB | apply zF | refine zE ?_ GE1451.out | refine zE ?_ GE1458.out | refine zE ?_ GE1465.out) | exact HB.out))) : w.heap.size ≤ gb1478)); have n10_ := zA ((by rw [hg]; exact (zL (by repeat (first | (with_reducible first | exact HB.out | apply zC | apply zB | apply zF | refine zE ?_ GE1451.out | refine zE ?_ GE1458.out | refine zE ?_ GE1465.out) | exact HB.out))) : w.heap.size ≤ gb1478)); have n11_ := zA ((by rw [hg]; exact Nat.ne_of_lt (blk_lt (g := gb1451) (o := .cells #[.int .i64 t1449, .int .i64 t1450] 65 (0, 0)) (by (with_reducible repeat (first | refine zG ?_ _ | refine zH ?_ | refine zD ?_ _)); exact BK1451.out)) : gb1451 ≠ gb1478)); have n12_ := zA ((by rw [hg]; exact Nat.ne_of_gt (blk_lt (g := gb1451) (o := .cells #[.int .i64 t1449, .int .i64 t1450] 65 (0, 0)) (by (with_reducible repeat (first | refine zG ?_ _ | refine zH ?_ | refine zD ?_ _)); exact BK1451.out)) : gb1478 ≠ gb1451)); have n13_ := zA ((by rw [hg]; exact Nat.ne_of_lt (blk_lt (g := gb1458) (o := .cells #[.int .i64 t1456, .int .i64 t1457] 65 (0, 0)) (by (with_reducible repeat (first | refine zG ?_ _ | refine zH ?_ | refine zD ?_ _)); exact BK1458.out)) : gb1458 ≠ gb1478)); have n14_ := zA ((by rw [hg]; exact Nat.ne_of_gt (blk_lt (g := gb1458) (o := .cells #[.int .i64 t1456, .int .i64 t1457] 65 (0, 0)) (by (with_reducible repeat (first | refine zG ?_ _ | refine zH ?_ | refine zD ?_ _)); exact BK1458.out)) : gb1478 ≠ gb1458)); have n15_ := zA ((by rw [hg]; exact Nat.ne_of_lt (blk_lt (g := gb1465) (o := .cells #[.int .i64 t1463, .int .i64 t1464] 65 (0, 0)) (by (with_reducible repeat (first | refine zG ?_ _ | refine zH ?_ | refine zD ?_ _)); exact BK1465.out)) : gb1465 ≠ gb1478)); have n16_ := zA ((by rw [hg]; exact Nat.ne_of_gt (blk_lt (g := gb1465) (o := .cells #[.int .i64 t1463, .int .i64 t1464] 65 (0, 0)) (by (with_reducible repeat (first | refine zG ?_ _ | refine zH ?_ | refine zD ?_ _)); exact BK1465.out)) : gb1478 ≠ gb1465)); clear HO_5; clear HO_12; clear HO1474; clear BK1451; clear BK1458; clear BK1465; clear HR1471; clear HB; have HO_5 := n0_; have HO_12 := n1_; have HO1474 := n2_; have BK1451 := n3_; have BK1458 := n4_; have BK1465 := n5_; have HR1471 := n6_; have HB := n7_; have BK1478 := n8_; have GW1478 := n9_; have GE1478 := n10_; have NB1451_1478 := n11_; have NB1478_1451 := n12_; have NB1458_1478 := n13_; have NB1478_1458 := n14_; have NB1465_1478 := n15_; have NB1478_1465 := n16_; clear n0_ n1_ n2_ n3_ n4_ n5_ n6_ n7_ n8_ n9_ n10_ n11_ n12_ n13_ n14_ n15_ n16_; clear hb hbox hg; have hnb74 := NB1478_1451.out; have hnc74 := NB1451_1478.out; have hnb75 := NB1478_1458.out; have hnc75 := NB1458_1478.out; have hnb76 := NB1478_1465.out; have hnc76 := NB1465_1478.out; have hcz77_0 : w73.cell? ⟨gb1478, 0, none⟩ = some (.int .i64 0) := (zK BK1478.out 0).trans rfl; have hcz77_1 : w73.cell? ⟨gb1478, 1, none⟩ = some (.int .i64 0) := (zK BK1478.out 1).trans rfl; have hfz77_0 := zJ BK1478.out 0; have hfz77_1 := zJ BK1478.out 1) | ((with_reducible refine gate_store (t := 65) (p := 16) rfl ?_); refine store_event (t := 65) (p := 16) (v := ?vo_w78) (w1 := ((w73.setCell ⟨gb1478, 0, none⟩ (.int .i64 t1476)).setCell ⟨gb1478, 1, none⟩ (.int .i64 t1477))) ?hg ?ho ?hn ?hr ?_; (case ho => rfl); (case hg => rfl); (case hn => rfl); (case hr => first | (go_simp; done) | (go_simp; rfl)); intro w78 hw; have n0_ : Aside0 (Kd.R (Kd.int .u8) 5 w78 w.heap.size (fun _ => True) (.slice Ao13 t1442.length co13) t1442) := ⟨(by rw [hw]; exact (by (with_reducible repeat (first | apply zN | apply zM | apply zO)); exact zP (Kd.R_far (p := ⟨gb1478, 1, none⟩) (Kd.R_far (p := ⟨gb1478, 0, none⟩) (zY HO_5.out BK1478.out (by decide)) (fun _ hk => hk.2) (.int .i64 t1476)) (fun _ hk => hk.2) (.int .i64 t1477)) (fun _ hk => trivial)))⟩; have n1_ : Aside0 (Kd.S k131 131 w78 w.heap.size (fun k_ => some k_ ≠ (.slice Ao13 t1442.length co13 : Value).ownBlock ∧ some k_ ≠ (v1473 : Value).ownBlock) v1461 t1460) := ⟨(by rw [hw]; exact (by (with_reducible repeat (first | apply yE | apply yF | apply yG)); exact yH (yI (p := ⟨gb1478, 1, none⟩) (yI (p := ⟨gb1478, 0, none⟩) (Kd.S_types HO_12.out BK1478.out (by decide)) (fun _ hk => hk.2) (.int .i64 t1476)) (fun _ hk => hk.2) (.int .i64 t1477)) (fun _ hk => ⟨hk.1.1, hk.1.2⟩)))⟩; have n2_ : Aside0 (Kd.S k131 131 w78 w.heap.size (fun k_ => some k_ ≠ (.slice Ao13 t1442.length co13 : Value).ownBlock ∧ some k_ ≠ (v1461 : Value).ownBlock) v1473 t1472) := ⟨(by rw [hw]; exact (by (with_reducible repeat (first | apply yE | apply yF | apply yG)); exact yH (yI (p := ⟨gb1478, 1, none⟩) (yI (p := ⟨gb1478, 0, none⟩) (Kd.S_types HO1474.out BK1478.out (by decide)) (fun _ hk => hk.2) (.int .i64 t1476)) (fun _ hk => hk.2) (.int .i64 t1477)) (fun _ hk => ⟨hk.1.1.2, hk.1.2⟩)))⟩; have n3_ : Aside0 (w78.heap[gb1451]? = some (.cells #[.int .i64 t1449, .int .i64 t1450] 65 (0, 0))) := ⟨(by rw [hw]; exact (by (with_reducible repeat (first | refine zG ?_ _ | refine zH ?_ | refine zD ?_ _)); refine blk_far ?_ NB1451_1478.out _; (with_reducible repeat (first | refine zG ?_ _ | refine zH ?_ | refine zD ?_ _)); refine blk_far ?_ NB1451_1478.out _; (with_reducible repeat (first | refine zG ?_ _ | refine zH ?_ | refine zD ?_ _)); exact BK1451.out))⟩; have n4_ : Aside0 (w78.heap[gb1458]? = some (.cells #[.int .i64 t1456, .int .i64 t1457] 65 (0, 0))) := ⟨(by rw [hw]; exact (by (with_reducible repeat (first | refine zG ?_ _ | refine zH ?_ | refine zD ?_ _)); refine blk_far ?_ NB1458_1478.out _; (with_reducible repeat (first | refine zG ?_ _ | refine zH ?_ | refine zD ?_ _)); refine blk_far ?_ NB1458_1478.out _; (with_reducible repeat (first | refine zG ?_ _ | refine zH ?_ | refine zD ?_ _)); exact BK1458.out))⟩; have n5_ : Aside0 (w78.heap[gb1465]? = some (.cells #[.int .i64 t1463, .int .i64 t1464] 65 (0, 0))) := ⟨(by rw [hw]; exact (by (with_reducible repeat (first | refine zG ?_ _ | refine zH ?_ | refine zD ?_ _)); refine blk_far ?_ NB1465_1478.out _; (with_reducible repeat (first | refine zG ?_ _ | refine zH ?_ | refine zD ?_ _)); refine blk_far ?_ NB1465_1478.out _; (with_reducible repeat (first | refine zG ?_ _ | refine zH ?_ | refine zD ?_ _)); exact BK1465.out))⟩; have n6_ : Aside0 (w78.heap[gb1478]? = some (.cells #[.int .i64 t1476, .int .i64 t1477] 65 (0, 0))) := ⟨(by rw [hw]; exact (by (with_reducible repeat (first | refine zG ?_ _ | refine zH ?_ | refine zD ?_ _)); refine blk_put (cs := #[.int .i64 t1476, .int .i64 0]) ?_ 1 _ rfl; (with_reducible repeat (first | refine zG ?_ _ | refine zH ?_ | refine zD ?_ _)); refine blk_put (cs := #[.int .i64 0, .int .i64 0]) ?_ 0 _ rfl; (with_reducible repeat (first | refine zG ?_ _ | refine zH ?_ | refine zD ?_ _)); exact BK1478.out))⟩; have n7_ : Aside0 (Below w.heap.size w w78) := ⟨(by rw [hw]; exact (by repeat (first | (with_reducible first | exact HB.out | apply zC | apply zB | apply zF | refine zE ?_ GE1451.out | refine zE ?_ GE1458.out | refine zE ?_ GE1465.out | refine zE ?_ GE1478.out) | exact HB.out)))⟩; clear hw; clear HO_5; clear HO_12; clear HO1474; clear BK1451; clear BK1458; clear BK1465; clear BK1478; clear HB; have HO_5 := n0_; have HO_12 := n1_; have HO1474 := n2_; have BK1451 := n3_; have BK1458 := n4_; have BK1465 := n5_; have BK1478 := n6_; have HB := n7_; clear n0_ n1_ n2_ n3_ n4_ n5_ n6_ n7_; have hcz79_0 : w78.cell? ⟨gb1478, 0, none⟩ = some (.int .i64 t1476) := (zK BK1478.out 0).trans rfl; have hcz79_1 : w78.cell? ⟨gb1478, 1, none⟩ = some (.int .i64 t1477) := (zK BK1478.out 1).trans rfl; have hfz79_0 := zJ BK1478.out 0; have hfz79_1 := zJ BK1478.out 1; obtain ⟨Ao80, co80, eo80⟩ := Kd.S_slice HO1474.out; subst eo80; obtain ⟨Ao81, co81, eo81⟩ := Kd.S_slice HO_12.out; subst eo81; have q82 : ((t1472.length : Int) : Int) ≤ ((t1460.length : Int) : Int) := zI (by first | (with_reducible assumption) | assumption); obtain ⟨i082, hi082, _, hsz82, _⟩ := info_parts info131; have hroom82 : t1460.length ≤ co81 := (Kd.S_reads' HO_12.out).2.1; have hC82 : Kd.C k131 _ Ao81 t1460.length t1460 := (Kd.S_reads' HO_12.out).2.2; have hcut82 := cut_to (P := Try.prog) 63 131 .i64 Try.underlying63 hi082 Ao81 t1460.length co81 (t1472.length : Int) (zI (by first | (with_reducible assumption) | assumption)) q82 hroom82; have hr82 := Kd.C_take (m := ((t1472.length : Int) : Int).toNat) hC82 (by omega); have hy82 : y1479.length = ((t1472.length : Int) : Int).toNat := (by rw [Ny1479.out, zQ]; omega); rw [← Ny1479.out] at hr82; rw [← hy82] at hcut82; have HR1482 := zA hr82; have HC1482 := zA (show y1479.length ≤ co81 from by omega); clear hr82 hC82 hroom82 hi082 hsz82; have KY82 := zA hy82; clear hy82; have KL82 := zA (show ((t1472.length : Int) : Int).toNat ≤ t1460.length from by omega); replace q82 := eq_true q82) | (go_at_call 74; (with_reducible refine (laws_sameSegs.calls kj35 _ _ t1472 _ _ y1479 t1483 _ ?side1 ?side2 ?side3 ?side4 A70.out).mono ?_); (case side1 => repeat (first | exact (Kd.S_reads' HO1474.out).2.2 | (with_reducible refine yN ?_ _) | (with_reducible refine yL ?_ _) | (with_reducible refine yM ?_))); (case side2 => exact (Kd.S_reads' HO1474.out).2.1); (case side3 => repeat (first | exact (by repeat (first | (with_reducible exact HR1482.out) | (with_reducible refine yN ?_ _) | (with_reducible refine yL ?_ _) | (with_reducible refine yM ?_) | exact HR1482.out)) | (with_reducible refine yN ?_ _) | (with_reducible refine yL ?_ _) | (with_reducible refine yM ?_))); (case side4 => exact HC1482.out); rintro e w' ⟨rfl, ⟨nd, rfl⟩⟩))
                 go_ret
                 exact ⟨by first | rfl | (simp [errW_none, errW_some] <;> rfl) | (simp [*, errW_none, errW_some] <;> rfl), by repeat (first | (with_reducible first | exact HB.out | apply zC | apply zB | apply zF | refine zE ?_ GE1451.out | refine zE ?_ GE1458.out | refine zE ?_ GE1465.out | refine zE ?_ GE1478.out) | exact HB.out)⟩
                ·rw [if_neg c68] at H
                 exact absurd H (by simp)
               ·rw [if_neg c67] at H
                have c67b0 : decide ((t1472.length : Int) ≤ (t1460.length : Int)) = false := decide_eq_false c67
                have c67b1 : decide (t1472.length ≤ t1460.length) = false := decide_eq_false (fun h => c67 (Int.ofNat_le.mpr h))
                clear c67
                obtain rfl := Option.some.inj H
                go_wp2_with (first | ((with_reducible refine gate_callee (f := 76) rfl ?_); refine goesL_ (some 84) rfl rfl Try.func76 (by kernel_rfl) rfl #[.slice A1 l1.length c1, .int .i64 0, .int .i64 (t1442.length : Int)] rfl (by (try simp only [zU, zV, zW]); first | done | rfl | (simp only [zR, zQ]; rfl)) ?_; (with_reducible refine (laws_pick.calls kj35 _ _ l1 0 (t1442.length : Int) t1467 _ ?side1 ?side2 A54.out).mono ?_); (case side1 => repeat (first | exact (Kd.C_below HR1.out HB.out) | (with_reducible refine yN ?_ _) | (with_reducible refine yL ?_ _) | (with_reducible refine yM ?_))); (case side2 => exact HC1.out); rintro e w' ⟨rfl, ⟨nd, rfl⟩⟩; refine ⟨_, rfl, ?_⟩; (try (rw [drewN_self wc]; generalize hq_ : World.drewN wc _ = wc; have n0_ : Aside0 (Kd.S k131 131 wc w.heap.size (fun k_ => some k_ ≠ (.slice Ao13 t1442.length co13 : Value).ownBlock) v1461 t1460) := ⟨by rw [← hq_]; exact (by (with_reducible repeat (first | apply yE | apply yF | apply yG)); exact HO_12.out)⟩; have n1_ : Aside0 (Kd.R (Kd.int .u8) 5 wc w.heap.size (fun _ => True) (.slice Ao13 t1442.length co13) t1442) := ⟨by rw [← hq_]; exact (by (with_reducible repeat (first | apply zN | apply zM | apply zO)); exact HO_5.out)⟩; have n2_ : Aside0 (wc.heap[gb1451]? = some (.cells #[.int .i64 t1449, .int .i64 t1450] 65 (0, 0))) := ⟨by rw [← hq_]; exact (by (with_reducible repeat (first | refine zG ?_ _ | refine zH ?_ | refine zD ?_ _)); exact BK1451.out)⟩; have n3_ : Aside0 (wc.heap[gb1458]? = some (.cells #[.int .i64 t1456, .int .i64 t1457] 65 (0, 0))) := ⟨by rw [← hq_]; exact (by (with_reducible repeat (first | refine zG ?_ _ | refine zH ?_ | refine zD ?_ _)); exact BK1458.out)⟩; have n4_ : Aside0 (wc.heap[gb1465]? = some (.cells #[.int .i64 t1463, .int .i64 t1464] 65 (0, 0))) := ⟨by rw [← hq_]; exact (by (with_reducible repeat (first | refine zG ?_ _ | refine zH ?_ | refine zD ?_ _)); exact BK1465.out)⟩; have n5_ : Aside0 (Below w.heap.size w wc) := ⟨by rw [← hq_]; exact (by repeat (first | (with_reducible first | exact HB.out | apply zC | apply zB | apply zF | refine zE ?_ GE1451.out | refine zE ?_ GE1458.out | refine zE ?_ GE1465.out) | exact HB.out))⟩; clear HO_12 HO_5 BK1451 BK1458 BK1465 HB hq_; have HO_12 := n0_; have HO_5 := n1_; have BK1451 := n2_; have BK1458 := n3_; have BK1465 := n4_; have HB := n5_; clear n0_ n1_ n2_ n3_ n4_ n5_)); have q83 : (t1467 : Int) ≤ ((t1442.length : Int) : Int) := zI (by first | (with_reducible assumption) | assumption); obtain ⟨i083, hi083, _, hsz83, _⟩ := info_parts info5; have hroom83 : t1442.length ≤ co13 := (yK HO_5.out).2.1; have hC83 : Kd.C (Kd.int .u8) _ Ao13 t1442.length t1442 := (yK HO_5.out).2.2; have hcut83 := cut_to (P := Try.prog) 23 5 .i64 Try.underlying23 hi083 Ao13 t1442.length co13 t1467 (zI (by first | (with_reducible assumption) | assumption)) q83 hroom83; have hr83 := Kd.C_take (m := (t1467 : Int).toNat) hC83 (by omega); have hy83 : y1468.length = (t1467 : Int).toNat := (by rw [Ny1468.out, zQ]; omega); rw [← Ny1468.out] at hr83; rw [← hy83] at hcut83; have HR1471 := zA hr83; have HC1471 := zA (show y1468.length ≤ co13 from by omega); clear hr83 hC83 hroom83 hi083 hsz83; have KY83 := zA hy83; clear hy83; have KL83 := zA (show (t1467 : Int).toNat ≤ t1442.length from by omega); replace q83 := eq_true q83) | ((with_reducible refine gate_callee (f := 59) rfl ?_); refine goesL_ (some 86) rfl rfl Try.func59 (by kernel_rfl) rfl #[.slice Ao13 y1468.length co13] rfl (by (try simp only [zU, zV, zW]); first | done | rfl | (simp only [zR, zQ]; rfl)) ?_; (with_reducible refine (impl_SegsSoFar.calls _ _ y1468 t1472 false t1476 t1477 _ ?side1 ?side2 A57.out).mono ?_); (case side1 => repeat (first | exact (by repeat (first | (with_reducible exact HR1471.out) | (with_reducible refine yN ?_ _) | (with_reducible refine yL ?_ _) | (with_reducible refine yM ?_) | exact HR1471.out)) | (with_reducible refine yN ?_ _) | (with_reducible refine yL ?_ _) | (with_reducible refine yM ?_))); (case side2 => exact HC1471.out); rintro e w84 ⟨v1473, rfl, ho0, hb⟩; refine ⟨_, rfl, ?_⟩; have n0_ := zA (Kd.R_below (by (with_reducible repeat (first | apply zN | apply zM | apply zO)); exact HO_5.out) hb); have n1_ := zA (Kd.S_elder' (by (with_reducible repeat (first | apply yE | apply yF | apply yG)); exact HO_12.out) (Kd.S_base ho0) hb); have n2_ := zA (Kd.S_lower (Kd.S_new' (Kd.S_new' ho0 (Kd.R_lt (by (with_reducible repeat (first | apply zN | apply zM | apply zO)); exact HO_5.out))) (Kd.S_lt (by (with_reducible repeat (first | apply yE | apply yF | apply yG)); exact HO_12.out))) (zL (by repeat (first | (with_reducible first | exact HB.out | apply zC | apply zB | apply zF | refine zE ?_ GE1451.out | refine zE ?_ GE1458.out | refine zE ?_ GE1465.out) | exact HB.out)))); have n3_ := zA (blk_below (g := gb1451) (o := .cells #[.int .i64 t1449, .int .i64 t1450] 65 (0, 0)) (by (with_reducible repeat (first | refine zG ?_ _ | refine zH ?_ | refine zD ?_ _)); exact BK1451.out) hb); have n4_ := zA (blk_below (g := gb1458) (o := .cells #[.int .i64 t1456, .int .i64 t1457] 65 (0, 0)) (by (with_reducible repeat (first | refine zG ?_ _ | refine zH ?_ | refine zD ?_ _)); exact BK1458.out) hb); have n5_ := zA (blk_below (g := gb1465) (o := .cells #[.int .i64 t1463, .int .i64 t1464] 65 (0, 0)) (by (with_reducible repeat (first | refine zG ?_ _ | refine zH ?_ | refine zD ?_ _)); exact BK1465.out) hb); have n6_ := zA (Kd.C_below (by repeat (first | (with_reducible exact HR1471.out) | (with_reducible refine yN ?_ _) | (with_reducible refine yL ?_ _) | (with_reducible refine yM ?_) | exact HR1471.out)) hb); have n7_ := zA (below_step (by repeat (first | (with_reducible first | exact HB.out | apply zC | apply zB | apply zF | refine zE ?_ GE1451.out | refine zE ?_ GE1458.out | refine zE ?_ GE1465.out) | exact HB.out)) hb); clear HO_5; clear HO_12; clear BK1451; clear BK1458; clear BK1465; clear HR1471; clear HB; have HO_5 := n0_; have HO_12 := n1_; have HO1474 := n2_; have BK1451 := n3_; have BK1458 := n4_; have BK1465 := n5_; have HR1471 := n6_; have HB := n7_; clear n0_ n1_ n2_ n3_ n4_ n5_ n6_ n7_; (try clear hb); (try clear hb2); (try clear hk); (try clear hi); (try clear ho0)) | ((with_reducible refine gate_dst (N := 16) rfl ?_); (try (refine gate_guard (by rfl) ?_; dsimp only)); refine box_event ?hg (N := 16) ?hd (cs := #[.int .i64 0, .int .i64 0]) (t := 65) ?hr ?_; (case hd => rfl); (case hg => rfl); (case hr => first | (go_simp; done) | (go_simp; rfl)); intro gb1478 hg w85 hbox hb; have n0_ := zA (Kd.R_below (by (with_reducible repeat (first | apply zN | apply zM | apply zO)); exact HO_5.out) hb); have n1_ := zA (Kd.S_below (by (with_reducible repeat (first | apply yE | apply yF | apply yG)); exact HO_12.out) hb); have n2_ := zA (Kd.S_below (by (with_reducible repeat (first | apply yE | apply yF | apply yG)); exact HO1474.out) hb); have n3_ := zA (blk_below (g := gb1451) (o := .cells #[.int .i64 t1449, .int .i64 t1450] 65 (0, 0)) (by (with_reducible repeat (first | refine zG ?_ _ | refine zH ?_ | refine zD ?_ _)); exact BK1451.out) hb); have n4_ := zA (blk_below (g := gb1458) (o := .cells #[.int .i64 t1456, .int .i64 t1457] 65 (0, 0)) (by (with_reducible repeat (first | refine zG ?_ _ | refine zH ?_ | refine zD ?_ _)); exact BK1458.out) hb); have n5_ := zA (blk_below (g := gb1465) (o := .cells #[.int .i64 t1463, .int .i64 t1464] 65 (0, 0)) (by (with_reducible repeat (first | refine zG ?_ _ | refine zH ?_ | refine zD ?_ _)); exact BK1465.out) hb); have n6_ := zA (Kd.C_below (by repeat (first | (with_reducible exact HR1471.out) | (with_reducible refine yN ?_ _) | (with_reducible refine yL ?_ _) | (with_reducible refine yM ?_) | exact HR1471.out)) hb); have n7_ := zA (below_step (by repeat (first | (with_reducible first | exact HB.out | apply zC | apply zB | apply zF | refine zE ?_ GE1451.out | refine zE ?_ GE1458.out | refine zE ?_ GE1465.out) | exact HB.out)) hb); have n8_ := zA (hbox); have n9_ := zA ((by rw [hg]; exact (zL (by repeat (first | (with_reducible first | exact HB.out | apply zC | apply zB | apply zF | refine zE ?_ GE1451.out | refine zE ?_ GE1458.out | refine zE ?_ GE1465.out) | exact HB.out))) : w.heap.size ≤ gb1478)); have n10_ := zA ((by rw [hg]; exact (zL (by repeat (first | (with_reducible first | exact HB.out | apply zC | apply zB | apply zF | refine zE ?_ GE1451.out | refine zE ?_ GE1458.out | refine zE ?_ GE1465.out) | exact HB.out))) : w.heap.size ≤ gb1478)); have n11_ := zA ((by rw [hg]; exact Nat.ne_of_lt (blk_lt (g := gb1451) (o := .cells #[.int .i64 t1449, .int .i64 t1450] 65 (0, 0)) (by (with_reducible repeat (first | refine zG ?_ _ | refine zH ?_ | refine zD ?_ _)); exact BK1451.out)) : gb1451 ≠ gb1478)); have n12_ := zA ((by rw [hg]; exact Nat.ne_of_gt (blk_lt (g := gb1451) (o := .cells #[.int .i64 t1449, .int .i64 t1450] 65 (0, 0)) (by (with_reducible repeat (first | refine zG ?_ _ | refine zH ?_ | refine zD ?_ _)); exact BK1451.out)) : gb1478 ≠ gb1451)); have n13_ := zA ((by rw [hg]; exact Nat.ne_of_lt (blk_lt (g := gb1458) (o := .cells #[.int .i64 t1456, .int .i64 t1457] 65 (0, 0)) (by (with_reducible repeat (first | refine zG ?_ _ | refine zH ?_ | refine zD ?_ _)); exact BK1458.out)) : gb1458 ≠ gb1478)); have n14_ := zA ((by rw [hg]; exact Nat.ne_of_gt (blk_lt (g := gb1458) (o := .cells #[.int .i64 t1456, .int .i64 t1457] 65 (0, 0)) (by (with_reducible repeat (first | refine zG ?_ _ | refine zH ?_ | refine zD ?_ _)); exact BK1458.out)) : gb1478 ≠ gb1458)); have n15_ := zA ((by rw [hg]; exact Nat.ne_of_lt (blk_lt (g := gb1465) (o := .cells #[.int .i64 t1463, .int .i64 t1464] 65 (0, 0)) (by (with_reducible repeat (first | refine zG ?_ _ | refine zH ?_ | refine zD ?_ _)); exact BK1465.out)) : gb1465 ≠ gb1478)); have n16_ := zA ((by rw [hg]; exact Nat.ne_of_gt (blk_lt (g := gb1465) (o := .cells #[.int .i64 t1463, .int .i64 t1464] 65 (0, 0)) (by (with_reducible repeat (first | refine zG ?_ _ | refine zH ?_ | refine zD ?_ _)); exact BK1465.out)) : gb1478 ≠ gb1465)); clear HO_5; clear HO_12; clear HO1474; clear BK1451; clear BK1458; clear BK1465; clear HR1471; clear HB; have HO_5 := n0_; have HO_12 := n1_; have HO1474 := n2_; have BK1451 := n3_; have BK1458 := n4_; have BK1465 := n5_; have HR1471 := n6_; have HB := n7_; have BK1478 := n8_; have GW1478 := n9_; have GE1478 := n10_; have NB1451_1478 := n11_; have NB1478_1451 := n12_; have NB1458_1478 := n13_; have NB1478_1458 := n14_; have NB1465_1478 := n15_; have NB1478_1465 := n16_; clear n0_ n1_ n2_ n3_ n4_ n5_ n6_ n7_ n8_ n9_ n10_ n11_ n12_ n13_ n14_ n15_ n16_; clear hb hbox hg; have hnb86 := NB1478_1451.out; have hnc86 := NB1451_1478.out; have hnb87 := NB1478_1458.out; have hnc87 := NB1458_1478.out; have hnb88 := NB1478_1465.out; have hnc88 := NB1465_1478.out; have hcz89_0 : w85.cell? ⟨gb1478, 0, none⟩ = some (.int .i64 0) := (zK BK1478.out 0).trans rfl; have hcz89_1 : w85.cell? ⟨gb1478, 1, none⟩ = some (.int .i64 0) := (zK BK1478.out 1).trans rfl; have hfz89_0 := zJ BK1478.out 0; have hfz89_1 := zJ BK1478.out 1; obtain ⟨Ao90, co90, eo90⟩ := Kd.S_slice HO1474.out; subst eo90; obtain ⟨Ao91, co91, eo91⟩ := Kd.S_slice HO_12.out; subst eo91))
                go_ret
                exact ⟨by first | rfl | (simp [errW_none, errW_some] <;> rfl) | (simp [*, errW_none, errW_some] <;> rfl), by repeat (first | (with_reducible first | exact HB.out | apply zC | apply zB | apply zF | refine zE ?_ GE1451.out | refine zE ?_ GE1458.out | refine zE ?_ GE1465.out | refine zE ?_ GE1478.out) | exact HB.out)⟩
              ·rw [if_neg c66] at H
               have c66b0 : (t1476 == 0) = false := beq_eq_false_iff_ne.mpr c66
               have c66b1 : (t1476 != 0) = true := bne_iff_ne.mpr c66
               obtain rfl := Option.some.inj H
               go_wp2_with (first | ((with_reducible refine gate_callee (f := 76) rfl ?_); refine goesL_ (some 84) rfl rfl Try.func76 (by kernel_rfl) rfl #[.slice A1 l1.length c1, .int .i64 0, .int .i64 (t1442.length : Int)] rfl (by (try simp only [zU, zV, zW]); first | done | rfl | (simp only [zR, zQ]; rfl)) ?_; (with_reducible refine (laws_pick.calls kj35 _ _ l1 0 (t1442.length : Int) t1467 _ ?side1 ?side2 A54.out).mono ?_); (case side1 => repeat (first | exact (Kd.C_below HR1.out HB.out) | (with_reducible refine yN ?_ _) | (with_reducible refine yL ?_ _) | (with_reducible refine yM ?_))); (case side2 => exact HC1.out); rintro e w' ⟨rfl, ⟨nd, rfl⟩⟩; refine ⟨_, rfl, ?_⟩; (try (rw [drewN_self wc]; generalize hq_ : World.drewN wc _ = wc; have n0_ : Aside0 (Kd.S k131 131 wc w.heap.size (fun k_ => some k_ ≠ (.slice Ao13 t1442.length co13 : Value).ownBlock) v1461 t1460) := ⟨by rw [← hq_]; exact (by (with_reducible repeat (first | apply yE | apply yF | apply yG)); exact HO_12.out)⟩; have n1_ : Aside0 (Kd.R (Kd.int .u8) 5 wc w.heap.size (fun _ => True) (.slice Ao13 t1442.length co13) t1442) := ⟨by rw [← hq_]; exact (by (with_reducible repeat (first | apply zN | apply zM | apply zO)); exact HO_5.out)⟩; have n2_ : Aside0 (wc.heap[gb1451]? = some (.cells #[.int .i64 t1449, .int .i64 t1450] 65 (0, 0))) := ⟨by rw [← hq_]; exact (by (with_reducible repeat (first | refine zG ?_ _ | refine zH ?_ | refine zD ?_ _)); exact BK1451.out)⟩; have n3_ : Aside0 (wc.heap[gb1458]? = some (.cells #[.int .i64 t1456, .int .i64 t1457] 65 (0, 0))) := ⟨by rw [← hq_]; exact (by (with_reducible repeat (first | refine zG ?_ _ | refine zH ?_ | refine zD ?_ _)); exact BK1458.out)⟩; have n4_ : Aside0 (wc.heap[gb1465]? = some (.cells #[.int .i64 t1463, .int .i64 t1464] 65 (0, 0))) := ⟨by rw [← hq_]; exact (by (with_reducible repeat (first | refine zG ?_ _ | refine zH ?_ | refine zD ?_ _)); exact BK1465.out)⟩; have n5_ : Aside0 (Below w.heap.size w wc) := ⟨by rw [← hq_]; exact (by repeat (first | (with_reducible first | exact HB.out | apply zC | apply zB | apply zF | refine zE ?_ GE1451.out | refine zE ?_ GE1458.out | refine zE ?_ GE1465.out) | exact HB.out))⟩; clear HO_12 HO_5 BK1451 BK1458 BK1465 HB hq_; have HO_12 := n0_; have HO_5 := n1_; have BK1451 := n2_; have BK1458 := n3_; have BK1465 := n4_; have HB := n5_; clear n0_ n1_ n2_ n3_ n4_ n5_)); have q92 : (t1467 : Int) ≤ ((t1442.length : Int) : Int) := zI (by first | (with_reducible assumption) | assumption); obtain ⟨i092, hi092, _, hsz92, _⟩ := info_parts info5; have hroom92 : t1442.length ≤ co13 := (yK HO_5.out).2.1; have hC92 : Kd.C (Kd.int .u8) _ Ao13 t1442.length t1442 := (yK HO_5.out).2.2; have hcut92 := cut_to (P := Try.prog) 23 5 .i64 Try.underlying23 hi092 Ao13 t1442.length co13 t1467 (zI (by first | (with_reducible assumption) | assumption)) q92 hroom92; have hr92 := Kd.C_take (m := (t1467 : Int).toNat) hC92 (by omega); have hy92 : y1468.length = (t1467 : Int).toNat := (by rw [Ny1468.out, zQ]; omega); rw [← Ny1468.out] at hr92; rw [← hy92] at hcut92; have HR1471 := zA hr92; have HC1471 := zA (show y1468.length ≤ co13 from by omega); clear hr92 hC92 hroom92 hi092 hsz92; have KY92 := zA hy92; clear hy92; have KL92 := zA (show (t1467 : Int).toNat ≤ t1442.length from by omega); replace q92 := eq_true q92) | ((with_reducible refine gate_callee (f := 59) rfl ?_); refine goesL_ (some 86) rfl rfl Try.func59 (by kernel_rfl) rfl #[.slice Ao13 y1468.length co13] rfl (by (try simp only [zU, zV, zW]); first | done | rfl | (simp only [zR, zQ]; rfl)) ?_; (with_reducible refine (impl_SegsSoFar.calls _ _ y1468 t1472 false t1476 t1477 _ ?side1 ?side2 A57.out).mono ?_); (case side1 => repeat (first | exact (by repeat (first | (with_reducible exact HR1471.out) | (with_reducible refine yN ?_ _) | (with_reducible refine yL ?_ _) | (with_reducible refine yM ?_) | exact HR1471.out)) | (with_reducible refine yN ?_ _) | (with_reducible refine yL ?_ _) | (with_reducible refine yM ?_))); (case side2 => exact HC1471.out); rintro e w93 ⟨v1473, rfl, ho0, hb⟩; refine ⟨_, rfl, ?_⟩; have n0_ := zA (Kd.R_below (by (with_reducible repeat (first | apply zN | apply zM | apply zO)); exact HO_5.out) hb); have n1_ := zA (Kd.S_elder' (by (with_reducible repeat (first | apply yE | apply yF | apply yG)); exact HO_12.out) (Kd.S_base ho0) hb); have n2_ := zA (Kd.S_lower (Kd.S_new' (Kd.S_new' ho0 (Kd.R_lt (by (with_reducible repeat (first | apply zN | apply zM | apply zO)); exact HO_5.out))) (Kd.S_lt (by (with_reducible repeat (first | apply yE | apply yF | apply yG)); exact HO_12.out))) (zL (by repeat (first | (with_reducible first | exact HB.out | apply zC | apply zB | apply zF | refine zE ?_ GE1451.out | refine zE ?_ GE1458.out | refine zE ?_ GE1465.out) | exact HB.out)))); have n3_ := zA (blk_below (g := gb1451) (o := .cells #[.int .i64 t1449, .int .i64 t1450] 65 (0, 0)) (by (with_reducible repeat (first | refine zG ?_ _ | refine zH ?_ | refine zD ?_ _)); exact BK1451.out) hb); have n4_ := zA (blk_below (g := gb1458) (o := .cells #[.int .i64 t1456, .int .i64 t1457] 65 (0, 0)) (by (with_reducible repeat (first | refine zG ?_ _ | refine zH ?_ | refine zD ?_ _)); exact BK1458.out) hb); have n5_ := zA (blk_below (g := gb1465) (o := .cells #[.int .i64 t1463, .int .i64 t1464] 65 (0, 0)) (by (with_reducible repeat (first | refine zG ?_ _ | refine zH ?_ | refine zD ?_ _)); exact BK1465.out) hb); have n6_ := zA (Kd.C_below (by repeat (first | (with_reducible exact HR1471.out) | (with_reducible refine yN ?_ _) | (with_reducible refine yL ?_ _) | (with_reducible refine yM ?_) | exact HR1471.out)) hb); have n7_ := zA (below_step (by repeat (first | (with_reducible first | exact HB.out | apply zC | apply zB | apply zF | refine zE ?_ GE1451.out | refine zE ?_ GE1458.out | refine zE ?_ GE1465.out) | exact HB.out)) hb); clear HO_5; clear HO_12; clear BK1451; clear BK1458; clear BK1465; clear HR1471; clear HB; have HO_5 := n0_; have HO_12 := n1_; have HO1474 := n2_; have BK1451 := n3_; have BK1458 := n4_; have BK1465 := n5_; have HR1471 := n6_; have HB := n7_; clear n0_ n1_ n2_ n3_ n4_ n5_ n6_ n7_; (try clear hb); (try clear hb2); (try clear hk); (try clear hi); (try clear ho0)) | ((with_reducible refine gate_dst (N := 16) rfl ?_); (try (refine gate_guard (by rfl) ?_; dsimp only)); refine box_event ?hg (N := 16) ?hd (cs := #[.int .i64 0, .int .i64 0]) (t := 65) ?hr ?_; (case hd => rfl); (case hg => rfl); (case hr => first | (go_simp; done) | (go_simp; rfl)); intro gb1478 hg w94 hbox hb; have n0_ := zA (Kd.R_below (by (with_reducible repeat (first | apply zN | apply zM | apply zO)); exact HO_5.out) hb); have n1_ := zA (Kd.S_below (by (with_reducible repeat (first | apply yE | apply yF | apply yG)); exact HO_12.out) hb); have n2_ := zA (Kd.S_below (by (with_reducible repeat (first | apply yE | apply yF | apply yG)); exact HO1474.out) hb); have n3_ := zA (blk_below (g := gb1451) (o := .cells #[.int .i64 t1449, .int .i64 t1450] 65 (0, 0)) (by (with_reducible repeat (first | refine zG ?_ _ | refine zH ?_ | refine zD ?_ _)); exact BK1451.out) hb); have n4_ := zA (blk_below (g := gb1458) (o := .cells #[.int .i64 t1456, .int .i64 t1457] 65 (0, 0)) (by (with_reducible repeat (first | refine zG ?_ _ | refine zH ?_ | refine zD ?_ _)); exact BK1458.out) hb); have n5_ := zA (blk_below (g := gb1465) (o := .cells #[.int .i64 t1463, .int .i64 t1464] 65 (0, 0)) (by (with_reducible repeat (first | refine zG ?_ _ | refine zH ?_ | refine zD ?_ _)); exact BK1465.out) hb); have n6_ := zA (Kd.C_below (by repeat (first | (with_reducible exact HR1471.out) | (with_reducible refine yN ?_ _) | (with_reducible refine yL ?_ _) | (with_reducible refine yM ?_) | exact HR1471.out)) hb); have n7_ := zA (below_step (by repeat (first | (with_reducible first | exact HB.out | apply zC | apply zB | apply zF | refine zE ?_ GE1451.out | refine zE ?_ GE1458.out | refine zE ?_ GE1465.out) | exact HB.out)) hb); have n8_ := zA (hbox); have n9_ := zA ((by rw [hg]; exact (zL (by repeat (first | (with_reducible first | exact HB.out | apply zC | apply zB | apply zF | refine zE ?_ GE1451.out | refine zE ?_ GE1458.out | refine zE ?_ GE1465.out) | exact HB.out))) : w.heap.size ≤ gb1478)); have n10_ := zA ((by rw [hg]; exact (zL (by repeat (first | (with_reducible first | exact HB.out | apply zC | apply zB | apply zF | refine zE ?_ GE1451.out | refine zE ?_ GE1458.out | refine zE ?_ GE1465.out) | exact HB.out))) : w.heap.size ≤ gb1478)); have n11_ := zA ((by rw [hg]; exact Nat.ne_of_lt (blk_lt (g := gb1451) (o := .cells #[.int .i64 t1449, .int .i64 t1450] 65 (0, 0)) (by (with_reducible repeat (first | refine zG ?_ _ | refine zH ?_ | refine zD ?_ _)); exact BK1451.out)) : gb1451 ≠ gb1478)); have n12_ := zA ((by rw [hg]; exact Nat.ne_of_gt (blk_lt (g := gb1451) (o := .cells #[.int .i64 t1449, .int .i64 t1450] 65 (0, 0)) (by (with_reducible repeat (first | refine zG ?_ _ | refine zH ?_ | refine zD ?_ _)); exact BK1451.out)) : gb1478 ≠ gb1451)); have n13_ := zA ((by rw [hg]; exact Nat.ne_of_lt (blk_lt (g := gb1458) (o := .cells #[.int .i64 t1456, .int .i64 t1457] 65 (0, 0)) (by (with_reducible repeat (first | refine zG ?_ _ | refine zH ?_ | refine zD ?_ _)); exact BK1458.out)) : gb1458 ≠ gb1478)); have n14_ := zA ((by rw [hg]; exact Nat.ne_of_gt (blk_lt (g := gb1458) (o := .cells #[.int .i64 t1456, .int .i64 t1457] 65 (0, 0)) (by (with_reducible repeat (first | refine zG ?_ _ | refine zH ?_ | refine zD ?_ _)); exact BK1458.out)) : gb1478 ≠ gb1458)); have n15_ := zA ((by rw [hg]; exact Nat.ne_of_lt (blk_lt (g := gb1465) (o := .cells #[.int .i64 t1463, .int .i64 t1464] 65 (0, 0)) (by (with_reducible repeat (first | refine zG ?_ _ | refine zH ?_ | refine zD ?_ _)); exact BK1465.out)) : gb1465 ≠ gb1478)); have n16_ := zA ((by rw [hg]; exact Nat.ne_of_gt (blk_lt (g := gb1465) (o := .cells #[.int .i64 t1463, .int .i64 t1464] 65 (0, 0)) (by (with_reducible repeat (first | refine zG ?_ _ | refine zH ?_ | refine zD ?_ _)); exact BK1465.out)) : gb1478 ≠ gb1465)); clear HO_5; clear HO_12; clear HO1474; clear BK1451; clear BK1458; clear BK1465; clear HR1471; clear HB; have HO_5 := n0_; have HO_12 := n1_; have HO1474 := n2_; have BK1451 := n3_; have BK1458 := n4_; have BK1465 := n5_; have HR1471 := n6_; have HB := n7_; have BK1478 := n8_; have GW1478 := n9_; have GE1478 := n10_; have NB1451_1478 := n11_; have NB1478_1451 := n12_; have NB1458_1478 := n13_; have NB1478_1458 := n14_; have NB1465_1478 := n15_; have NB1478_1465 := n16_; clear n0_ n1_ n2_ n3_ n4_ n5_ n6_ n7_ n8_ n9_ n10_ n11_ n12_ n13_ n14_ n15_ n16_; clear hb hbox hg; have hnb95 := NB1478_1451.out; have hnc95 := NB1451_1478.out; have hnb96 := NB1478_1458.out; have hnc96 := NB1458_1478.out; have hnb97 := NB1478_1465.out; have hnc97 := NB1465_1478.out; have hcz98_0 : w94.cell? ⟨gb1478, 0, none⟩ = some (.int .i64 0) := (zK BK1478.out 0).trans rfl; have hcz98_1 : w94.cell? ⟨gb1478, 1, none⟩ = some (.int .i64 0) := (zK BK1478.out 1).trans rfl; have hfz98_0 := zJ BK1478.out 0; have hfz98_1 := zJ BK1478.out 1))
               go_ret
               exact ⟨by first | rfl | (simp [errW_none, errW_some] <;> rfl) | (simp [*, errW_none, errW_some] <;> rfl), by repeat (first | (with_reducible first | exact HB.out | apply zC | apply zB | apply zF | refine zE ?_ GE1451.out | refine zE ?_ GE1458.out | refine zE ?_ GE1465.out | refine zE ?_ GE1478.out) | exact HB.out)⟩
            ·rw [if_neg c56] at H
             exact absurd H (by simp)
           ·rw [if_neg c55] at H
            exact absurd H (by simp)
       ·rw [if_neg c35] at H
        have c35b0 : (t1463 == 0) = false := beq_eq_false_iff_ne.mpr c35
        have c35b1 : (t1463 != 0) = true := bne_iff_ne.mpr c35
        by_cases c99 : t1449 = 0
        ·rw [if_pos c99] at H
         have c99b0 : (t1449 == 0) = true := beq_iff_eq.mpr c99
         have c99b1 : (t1449 != 0) = false := bne_eq_false_iff_eq.mpr c99
         clear c99
         obtain rfl := Option.some.inj H
         go_wp2_with (first | ((with_reducible refine gate_callee (f := 75) rfl ?_); refine goesL_ (some 53) rfl rfl Try.func75 (by kernel_rfl) rfl #[.slice Ao13 t1442.length co13] rfl (by (try simp only [zU, zV, zW]); first | done | rfl | (simp only [zR, zQ]; rfl)) ?_; (with_reducible refine (spec_ReadSegs.calls kj10 _ _ t1442 t1460 t1463 t1464 _ ?side1 ?side2 A34.out).mono ?_); (case side1 => repeat (first | exact (yK HO_5.out).2.2 | (with_reducible refine yN ?_ _) | (with_reducible refine yL ?_ _) | (with_reducible refine yM ?_))); (case side2 => exact (yK HO_5.out).2.1); rintro e w100 ⟨v1461, rfl, ho0, hb⟩; refine ⟨_, rfl, ?_⟩; have n0_ := zA (Kd.R_below (by (with_reducible repeat (first | apply zN | apply zM | apply zO)); exact HO_5.out) hb); have n1_ := zA (Kd.S_elder' (by (with_reducible repeat (first | apply yE | apply yF | apply yG)); exact HO_6.out) (Kd.S_base ho0) hb); have n2_ := zA (Kd.S_lower (Kd.S_new' (Kd.S_new' ho0 (Kd.R_lt (by (with_reducible repeat (first | apply zN | apply zM | apply zO)); exact HO_5.out))) (Kd.S_lt (by (with_reducible repeat (first | apply yE | apply yF | apply yG)); exact HO_6.out))) (zL (by repeat (first | (with_reducible first | exact HB.out | apply zC | apply zB | apply zF | refine zE ?_ GE1451.out | refine zE ?_ GE1458.out) | exact HB.out)))); have n3_ := zA (blk_below (g := gb1451) (o := .cells #[.int .i64 t1449, .int .i64 t1450] 65 (0, 0)) (by (with_reducible repeat (first | refine zG ?_ _ | refine zH ?_ | refine zD ?_ _)); exact BK1451.out) hb); have n4_ := zA (blk_below (g := gb1458) (o := .cells #[.int .i64 t1456, .int .i64 t1457] 65 (0, 0)) (by (with_reducible repeat (first | refine zG ?_ _ | refine zH ?_ | refine zD ?_ _)); exact BK1458.out) hb); have n5_ := zA (below_step (by repeat (first | (with_reducible first | exact HB.out | apply zC | apply zB | apply zF | refine zE ?_ GE1451.out | refine zE ?_ GE1458.out) | exact HB.out)) hb); clear HO_5; clear HO_6; clear BK1451; clear BK1458; clear HB; have HO_5 := n0_; have HO_6 := n1_; have HO1462 := n2_; have BK1451 := n3_; have BK1458 := n4_; have HB := n5_; clear n0_ n1_ n2_ n3_ n4_ n5_; (try clear hb); (try clear hb2); (try clear hk); (try clear hi); (try clear ho0)) | ((with_reducible refine gate_dst (N := 13) rfl ?_); (try (refine gate_guard (by rfl) ?_; dsimp only)); refine box_event ?hg (N := 13) ?hd (cs := #[.int .i64 0, .int .i64 0]) (t := 65) ?hr ?_; (case hd => rfl); (case hg => rfl); (case hr => first | (go_simp; done) | (go_simp; rfl)); intro gb1465 hg w101 hbox hb; have n0_ := zA (Kd.R_below (by (with_reducible repeat (first | apply zN | apply zM | apply zO)); exact HO_5.out) hb); have n1_ := zA (Kd.S_below (by (with_reducible repeat (first | apply yE | apply yF | apply yG)); exact HO_6.out) hb); have n2_ := zA (Kd.S_below (by (with_reducible repeat (first | apply yE | apply yF | apply yG)); exact HO1462.out) hb); have n3_ := zA (blk_below (g := gb1451) (o := .cells #[.int .i64 t1449, .int .i64 t1450] 65 (0, 0)) (by (with_reducible repeat (first | refine zG ?_ _ | refine zH ?_ | refine zD ?_ _)); exact BK1451.out) hb); have n4_ := zA (blk_below (g := gb1458) (o := .cells #[.int .i64 t1456, .int .i64 t1457] 65 (0, 0)) (by (with_reducible repeat (first | refine zG ?_ _ | refine zH ?_ | refine zD ?_ _)); exact BK1458.out) hb); have n5_ := zA (below_step (by repeat (first | (with_reducible first | exact HB.out | apply zC | apply zB | apply zF | refine zE ?_ GE1451.out | refine zE ?_ GE1458.out) | exact HB.out)) hb); have n6_ := zA (hbox); have n7_ := zA ((by rw [hg]; exact (zL (by repeat (first | (with_reducible first | exact HB.out | apply zC | apply zB | apply zF | refine zE ?_ GE1451.out | refine zE ?_ GE1458.out) | exact HB.out))) : w.heap.size ≤ gb1465)); have n8_ := zA ((by rw [hg]; exact (zL (by repeat (first | (with_reducible first | exact HB.out | apply zC | apply zB | apply zF | refine zE ?_ GE1451.out | refine zE ?_ GE1458.out) | exact HB.out))) : w.heap.size ≤ gb1465)); have n9_ := zA ((by rw [hg]; exact Nat.ne_of_lt (blk_lt (g := gb1451) (o := .cells #[.int .i64 t1449, .int .i64 t1450] 65 (0, 0)) (by (with_reducible repeat (first | refine zG ?_ _ | refine zH ?_ | refine zD ?_ _)); exact BK1451.out)) : gb1451 ≠ gb1465)); have n10_ := zA ((by rw [hg]; exact Nat.ne_of_gt (blk_lt (g := gb1451) (o := .cells #[.int .i64 t1449, .int .i64 t1450] 65 (0, 0)) (by (with_reducible repeat (first | refine zG ?_ _ | refine zH ?_ | refine zD ?_ _)); exact BK1451.out)) : gb1465 ≠ gb1451)); have n11_ := zA ((by rw [hg]; exact Nat.ne_of_lt (blk_lt (g := gb1458) (o := .cells #[.int .i64 t1456, .int .i64 t1457] 65 (0, 0)) (by (with_reducible repeat (first | refine zG ?_ _ | refine zH ?_ | refine zD ?_ _)); exact BK1458.out)) : gb1458 ≠ gb1465)); have n12_ := zA ((by rw [hg]; exact Nat.ne_of_gt (blk_lt (g := gb1458) (o := .cells #[.int .i64 t1456, .int .i64 t1457] 65 (0, 0)) (by (with_reducible repeat (first | refine zG ?_ _ | refine zH ?_ | refine zD ?_ _)); exact BK1458.out)) : gb1465 ≠ gb1458)); clear HO_5; clear HO_6; clear HO1462; clear BK1451; clear BK1458; clear HB; have HO_5 := n0_; have HO_6 := n1_; have HO1462 := n2_; have BK1451 := n3_; have BK1458 := n4_; have HB := n5_; have BK1465 := n6_; have GW1465 := n7_; have GE1465 := n8_; have NB1451_1465 := n9_; have NB1465_1451 := n10_; have NB1458_1465 := n11_; have NB1465_1458 := n12_; clear n0_ n1_ n2_ n3_ n4_ n5_ n6_ n7_ n8_ n9_ n10_ n11_ n12_; clear hb hbox hg; have hnb102 := NB1465_1451.out; have hnc102 := NB1451_1465.out; have hnb103 := NB1465_1458.out; have hnc103 := NB1458_1465.out; have hcz104_0 : w101.cell? ⟨gb1465, 0, none⟩ = some (.int .i64 0) := (zK BK1465.out 0).trans rfl; have hcz104_1 : w101.cell? ⟨gb1465, 1, none⟩ = some (.int .i64 0) := (zK BK1465.out 1).trans rfl; have hfz104_0 := zJ BK1465.out 0; have hfz104_1 := zJ BK1465.out 1; have hnb105 := NB1451_1458.out; have hnc105 := NB1458_1451.out; have hcz106_0 : w101.cell? ⟨gb1451, 0, none⟩ = some (.int .i64 t1449) := (zK BK1451.out 0).trans rfl; have hcz106_1 : w101.cell? ⟨gb1451, 1, none⟩ = some (.int .i64 t1450) := (zK BK1451.out 1).trans rfl; have hfz106_0 := zJ BK1451.out 0; have hfz106_1 := zJ BK1451.out 1))
         go_ret
         exact ⟨by first | rfl | (simp [errW_none, errW_some] <;> rfl) | (simp [*, errW_none, errW_some] <;> rfl), by repeat (first | (with_reducible first | exact HB.out | apply zC | apply zB | apply zF | refine zE ?_ GE1451.out | refine zE ?_ GE1458.out | refine zE ?_ GE1465.out) | exact HB.out)⟩
        ·rw [if_neg c99] at H
         have c99b0 : (t1449 == 0) = false := beq_eq_false_iff_ne.mpr c99
         have c99b1 : (t1449 != 0) = true := bne_iff_ne.mpr c99
         obtain rfl := Option.some.inj H
         go_wp2_with (first | ((with_reducible refine gate_callee (f := 75) rfl ?_); refine goesL_ (some 53) rfl rfl Try.func75 (by kernel_rfl) rfl #[.slice Ao13 t1442.length co13] rfl (by (try simp only [zU, zV, zW]); first | done | rfl | (simp only [zR, zQ]; rfl)) ?_; (with_reducible refine (spec_ReadSegs.calls kj10 _ _ t1442 t1460 t1463 t1464 _ ?side1 ?side2 A34.out).mono ?_); (case side1 => repeat (first | exact (yK HO_5.out).2.2 | (with_reducible refine yN ?_ _) | (with_reducible refine yL ?_ _) | (with_reducible refine yM ?_))); (case side2 => exact (yK HO_5.out).2.1); rintro e w107 ⟨v1461, rfl, ho0, hb⟩; refine ⟨_, rfl, ?_⟩; have n0_ := zA (Kd.R_below (by (with_reducible repeat (first | apply zN | apply zM | apply zO)); exact HO_5.out) hb); have n1_ := zA (Kd.S_elder' (by (with_reducible repeat (first | apply yE | apply yF | apply yG)); exact HO_6.out) (Kd.S_base ho0) hb); have n2_ := zA (Kd.S_lower (Kd.S_new' (Kd.S_new' ho0 (Kd.R_lt (by (with_reducible repeat (first | apply zN | apply zM | apply zO)); exact HO_5.out))) (Kd.S_lt (by (with_reducible repeat (first | apply yE | apply yF | apply yG)); exact HO_6.out))) (zL (by repeat (first | (with_reducible first | exact HB.out | apply zC | apply zB | apply zF | refine zE ?_ GE1451.out | refine zE ?_ GE1458.out) | exact HB.out)))); have n3_ := zA (blk_below (g := gb1451) (o := .cells #[.int .i64 t1449, .int .i64 t1450] 65 (0, 0)) (by (with_reducible repeat (first | refine zG ?_ _ | refine zH ?_ | refine zD ?_ _)); exact BK1451.out) hb); have n4_ := zA (blk_below (g := gb1458) (o := .cells #[.int .i64 t1456, .int .i64 t1457] 65 (0, 0)) (by (with_reducible repeat (first | refine zG ?_ _ | refine zH ?_ | refine zD ?_ _)); exact BK1458.out) hb); have n5_ := zA (below_step (by repeat (first | (with_reducible first | exact HB.out | apply zC | apply zB | apply zF | refine zE ?_ GE1451.out | refine zE ?_ GE1458.out) | exact HB.out)) hb); clear HO_5; clear HO_6; clear BK1451; clear BK1458; clear HB; have HO_5 := n0_; have HO_6 := n1_; have HO1462 := n2_; have BK1451 := n3_; have BK1458 := n4_; have HB := n5_; clear n0_ n1_ n2_ n3_ n4_ n5_; (try clear hb); (try clear hb2); (try clear hk); (try clear hi); (try clear ho0)) | ((with_reducible refine gate_dst (N := 13) rfl ?_); (try (refine gate_guard (by rfl) ?_; dsimp only)); refine box_event ?hg (N := 13) ?hd (cs := #[.int .i64 0, .int .i64 0]) (t := 65) ?hr ?_; (case hd => rfl); (case hg => rfl); (case hr => first | (go_simp; done) | (go_simp; rfl)); intro gb1465 hg w108 hbox hb; have n0_ := zA (Kd.R_below (by (with_reducible repeat (first | apply zN | apply zM | apply zO)); exact HO_5.out) hb); have n1_ := zA (Kd.S_below (by (with_reducible repeat (first | apply yE | apply yF | apply yG)); exact HO_6.out) hb); have n2_ := zA (Kd.S_below (by (with_reducible repeat (first | apply yE | apply yF | apply yG)); exact HO1462.out) hb); have n3_ := zA (blk_below (g := gb1451) (o := .cells #[.int .i64 t1449, .int .i64 t1450] 65 (0, 0)) (by (with_reducible repeat (first | refine zG ?_ _ | refine zH ?_ | refine zD ?_ _)); exact BK1451.out) hb); have n4_ := zA (blk_below (g := gb1458) (o := .cells #[.int .i64 t1456, .int .i64 t1457] 65 (0, 0)) (by (with_reducible repeat (first | refine zG ?_ _ | refine zH ?_ | refine zD ?_ _)); exact BK1458.out) hb); have n5_ := zA (below_step (by repeat (first | (with_reducible first | exact HB.out | apply zC | apply zB | apply zF | refine zE ?_ GE1451.out | refine zE ?_ GE1458.out) | exact HB.out)) hb); have n6_ := zA (hbox); have n7_ := zA ((by rw [hg]; exact (zL (by repeat (first | (with_reducible first | exact HB.out | apply zC | apply zB | apply zF | refine zE ?_ GE1451.out | refine zE ?_ GE1458.out) | exact HB.out))) : w.heap.size ≤ gb1465)); have n8_ := zA ((by rw [hg]; exact (zL (by repeat (first | (with_reducible first | exact HB.out | apply zC | apply zB | apply zF | refine zE ?_ GE1451.out | refine zE ?_ GE1458.out) | exact HB.out))) : w.heap.size ≤ gb1465)); have n9_ := zA ((by rw [hg]; exact Nat.ne_of_lt (blk_lt (g := gb1451) (o := .cells #[.int .i64 t1449, .int .i64 t1450] 65 (0, 0)) (by (with_reducible repeat (first | refine zG ?_ _ | refine zH ?_ | refine zD ?_ _)); exact BK1451.out)) : gb1451 ≠ gb1465)); have n10_ := zA ((by rw [hg]; exact Nat.ne_of_gt (blk_lt (g := gb1451) (o := .cells #[.int .i64 t1449, .int .i64 t1450] 65 (0, 0)) (by (with_reducible repeat (first | refine zG ?_ _ | refine zH ?_ | refine zD ?_ _)); exact BK1451.out)) : gb1465 ≠ gb1451)); have n11_ := zA ((by rw [hg]; exact Nat.ne_of_lt (blk_lt (g := gb1458) (o := .cells #[.int .i64 t1456, .int .i64 t1457] 65 (0, 0)) (by (with_reducible repeat (first | refine zG ?_ _ | refine zH ?_ | refine zD ?_ _)); exact BK1458.out)) : gb1458 ≠ gb1465)); have n12_ := zA ((by rw [hg]; exact Nat.ne_of_gt (blk_lt (g := gb1458) (o := .cells #[.int .i64 t1456, .int .i64 t1457] 65 (0, 0)) (by (with_reducible repeat (first | refine zG ?_ _ | refine zH ?_ | refine zD ?_ _)); exact BK1458.out)) : gb1465 ≠ gb1458)); clear HO_5; clear HO_6; clear HO1462; clear BK1451; clear BK1458; clear HB; have HO_5 := n0_; have HO_6 := n1_; have HO1462 := n2_; have BK1451 := n3_; have BK1458 := n4_; have HB := n5_; have BK1465 := n6_; have GW1465 := n7_; have GE1465 := n8_; have NB1451_1465 := n9_; have NB1465_1451 := n10_; have NB1458_1465 := n11_; have NB1465_1458 := n12_; clear n0_ n1_ n2_ n3_ n4_ n5_ n6_ n7_ n8_ n9_ n10_ n11_ n12_; clear hb hbox hg; have hnb109 := NB1465_1451.out; have hnc109 := NB1451_1465.out; have hnb110 := NB1465_1458.out; have hnc110 := NB1458_1465.out; have hcz111_0 : w108.cell? ⟨gb1465, 0, none⟩ = some (.int .i64 0) := (zK BK1465.out 0).trans rfl; have hcz111_1 : w108.cell? ⟨gb1465, 1, none⟩ = some (.int .i64 0) := (zK BK1465.out 1).trans rfl; have hfz111_0 := zJ BK1465.out 0; have hfz111_1 := zJ BK1465.out 1; have hnb112 := NB1451_1458.out; have hnc112 := NB1458_1451.out; have hcz113_0 : w108.cell? ⟨gb1451, 0, none⟩ = some (.int .i64 t1449) := (zK BK1451.out 0).trans rfl; have hcz113_1 : w108.cell? ⟨gb1451, 1, none⟩ = some (.int .i64 t1450) := (zK BK1451.out 1).trans rfl; have hfz113_0 := zJ BK1451.out 0; have hfz113_1 := zJ BK1451.out 1))
         go_ret
         exact ⟨by first | rfl | (simp [errW_none, errW_some] <;> rfl) | (simp [*, errW_none, errW_some] <;> rfl), by repeat (first | (with_reducible first | exact HB.out | apply zC | apply zB | apply zF | refine zE ?_ GE1451.out | refine zE ?_ GE1458.out | refine zE ?_ GE1465.out) | exact HB.out)⟩
end Go.Proofs.Ytcjjmfpkhhdmlaa.G


namespace Go.Proofs.Ytcjjmfpkhhdmlaa.G
open Go.RowKit Go.Proofs.YtcjjmfpkhhdmlaaW.PrintWords Go.Proofs.YtcjjmfpkhhdmlaaW.PrintLast Go.Proofs.YtcjjmfpkhhdmlaaW.PrintMore
attribute [local go_sem] max2_int min2_int max_two min_two max_three min_three max_four min_four   -- for this text's walks alone
theorem nxt_small (b : List Int) (at_ : Nat) (l : List S131) (hx : ∀ x ∈ l, x.f1.length ≤ 20000) : ∀ x ∈ (nxt b at_ l).2.2.2.2, x.f1.length ≤ 20000 := by
 unfold nxt
 have app : ∀ s : S131, s.f1.length ≤ 20000 → ∀ x ∈ l ++ [s], x.f1.length ≤ 20000 := by
  intro s hs x h
  rcases List.mem_append.1 h with h | h
  ·exact hx x h
  ·rw [List.mem_singleton.1 h]; exact hs
 split
 ·exact hx
 split
 ·exact hx
 split
 ·exact hx
 split
 ·exact hx
 split
 ·split
  ·exact hx
  ·rename_i h; exact app _ (by simp only []; omega)
 split
 ·exact app _ (by simp)
 split
 ·exact hx
 split
 ·exact hx
 split
 ·exact hx
 ·rename_i h _; exact app _ (by simp only [zQ]; omega)
theorem sfI_small (b : List Int) : ∀ (n at_ : Nat) (l : List S131), at_ ≤ b.length → l.length ≤ 300 → (∀ x ∈ l, x.f1.length ≤ 20000) → (sfI b n at_ l).1.length ≤ 300 ∧ ∀ x ∈ (sfI b n at_ l).1, x.f1.length ≤ 20000
 | 0, _, _, _, hl, hx => ⟨hl, hx⟩
 | n + 1, at_, l, hat, hl, hx => by
  obtain ⟨f1, f2, f3⟩ := nxt_facts b at_ l hat hl
  have f4 := nxt_small b at_ l hx
  unfold sfI
  split
  ·split
   ·exact ⟨by simp only [List.length_dropLast]; omega, fun x h => f4 x (List.dropLast_subset _ h)⟩
   ·exact ⟨f2, f4⟩
  split
  ·exact ⟨f2, f4⟩
  split
  ·split
   ·exact ⟨f2, f4⟩
   ·exact ⟨f2, f4⟩
  ·exact sfI_small b n _ _ f1 f2 f4
theorem soFarM_small (b : List Int) : (soFarM b).1.length ≤ 300 ∧ ∀ x ∈ (soFarM b).1, x.f1.length ≤ 20000 := by
 unfold soFarM
 split
 ·exact ⟨by simp, by simp⟩
 split
 ·exact ⟨by simp, by simp⟩
 split
 ·exact ⟨by simp, by simp⟩
 ·rename_i h1 h2 h3
  exact sfI_small b _ 2 [] (by have : ¬ b.length < 2 := fun h => h3 (.inl h); omega) (by simp) (by simp)
end Go.Proofs.Ytcjjmfpkhhdmlaa.G


namespace Go.Proofs.Ytcjjmfpkhhdmlaa.G
open Go.RowKit Go.Proofs.YtcjjmfpkhhdmlaaW.PrintWords Go.Proofs.YtcjjmfpkhhdmlaaW.PrintLast Go.Proofs.YtcjjmfpkhhdmlaaW.PrintMore
attribute [local go_sem] max2_int min2_int max_two min_two max_three min_three max_four min_four   -- for this text's walks alone
theorem isB_of {b : List Int} (h : BytesL b) : isB b = true := by
 rw [isB, List.all_eq_true]
 intro x hx
 have := h x hx
 simp [this]
theorem soFar_j2 (l1 b : List Int) (h1 : ∀ x ∈ l1, 0 ≤ x ∧ x ≤ 255) (hl1 : l1.length ≤ 1048576) (hb : BytesL b) (hbl : b.length ≤ 60002) (h0 : (readSM b).2.1 = 0) : EvP (fun k => laws_FnSoFar.j2 k l1 b (readSM b).1 false) (fun r => r = true) := by
 have hn : 2 ≤ b.length := by
  rcases Nat.lt_or_ge b.length 2 with h | h
  ·exfalso
   unfold readSM at h0
   rw [if_neg (by omega), if_pos (.inl h)] at h0
   simp at h0
  ·exact h
 refine EvP.step (fun _ => by rw [laws_FnSoFar.j2]) ?_
 refine EvP.ng (by simp) ?_
 refine EvP.bind (laws_pick.ev l1 h1 hl1 (b.length : Int) (by omega) (by omega)) (fun v hv => ?_)
 obtain ⟨k, rfl⟩ : ∃ k : Nat, v = k := ⟨v.toNat, by omega⟩
 refine EvP.ip (by omega) ?_
 refine EvP.ip (by omega) ?_
 rw [Int.toNat_natCast]
 obtain ⟨so, e, hp⟩ := soFar_cut b hb h0 k (by omega)
 have hf : impl_SegsSoFar.f (b.take k) = some (so, false, 0, 0) := by
  unfold impl_SegsSoFar.f
  rw [if_pos ⟨isB_of (hb.take k), by rw [zQ]; omega⟩, e]
 refine EvP.val hf ?_
 have hsm := soFarM_small (b.take k)
 rw [e] at hsm
 simp only [] at hsm
 have hpl := hp.length_le
 refine EvP.ng (show ¬ (false = true) by decide) ?_
 refine EvP.ip (show (0 : Int) = 0 from rfl) ?_
 refine EvP.ip (show (so.length : Int) ≤ ((readSM b).1.length : Int) by omega) ?_
 refine EvP.ip (show (0 : Int) ≤ (so.length : Int) by omega) ?_
 simp only []
 rw [Int.toNat_natCast, ← List.prefix_iff_eq_take.1 hp]
 exact EvP.bind (EvP.of (laws_sameSegs.same so (by omega) (fun s hs => by have := hsm.2 s hs; omega)) (P := fun r => r = true) rfl) (fun r hr => EvP.now hr)
theorem pure_FnSoFar : ∀ (l0 : List Int) (l1 : List Int), (l0.length ≤ 9223372036854775807 ∧ ∀ x0_ ∈ l0, (Lit.int .u8 x0_).wf = true) → (l1.length ≤ 9223372036854775807 ∧ ∀ x0_ ∈ l1, (Lit.int .u8 x0_).wf = true) → ∃ k, laws_FnSoFar.f k l0 l1 = some true := by
 intro l0 l1 h0 h1
 have hb0 : ∀ x ∈ l0, 0 ≤ x ∧ x ≤ 255 := fun x hx => wf_u8 (h0.2 x hx)
 have hb1 : ∀ x ∈ l1, 0 ≤ x ∧ x ≤ 255 := fun x hx => wf_u8 (h1.2 x hx)
 suffices h : EvP (fun k => laws_FnSoFar.f k l0 l1) (fun r => r = true) by
  obtain ⟨r, he, rfl⟩ := h
  exact he.rounds
 have jt : EvP (fun k => laws_FnSoFar.j0 k l0 l1 true) (fun r => r = true) := EvP.step (fun _ => by rw [laws_FnSoFar.j0]) (EvP.ip rfl (EvP.now rfl))
 unfold laws_FnSoFar.f
 by_cases hbig : (l0.length : Int) > 1048576
 ·refine EvP.val (show laws_big.f l0 = some true by unfold laws_big.f; rw [zT hbig]) ?_
  exact EvP.ip rfl jt
 refine EvP.val (show laws_big.f l0 = some false by unfold laws_big.f; rw [decide_eq_false hbig]) ?_
 refine EvP.ng (by simp) ?_
 by_cases hbig1 : (l1.length : Int) > 1048576
 ·exact EvP.val (show laws_big.f l1 = some true by unfold laws_big.f; rw [zT hbig1]) jt
 refine EvP.val (show laws_big.f l1 = some false by unfold laws_big.f; rw [decide_eq_false hbig1]) ?_
 refine EvP.step (fun _ => by rw [laws_FnSoFar.j0]) ?_
 refine EvP.ng (by simp) ?_
 refine EvP.bind (spec_DrawReadSegs.ev l0 hb0 (by omega)) (fun b hb => ?_)
 obtain ⟨hb, hbl⟩ := hb
 refine EvP.val (show impl_SegsSoFar.f b = some (soFarM b) from if_pos ⟨isB_of hb, by omega⟩) ?_
 refine EvP.bind (EvP.of (soFar_spec b hb (by omega)) (P := fun r => r = soFarM b) rfl) (fun r hr => ?_)
 subst hr
 have hsm := soFarM_small b
 refine EvP.bind (EvP.of (laws_sameSegs.same (soFarM b).1 (by omega) (fun s hs => by have := hsm.2 s hs; omega)) (P := fun r => r = true) rfl) (fun r hr => ?_)
 subst hr
 refine EvP.ip rfl ?_
 refine EvP.ng (by simp) ?_
 have e : (!((soFarM b).2.2.1 == (soFarM b).2.2.1) || (!((soFarM b).2.2.2 == (soFarM b).2.2.2))) = false := by simp
 rw [e]
 refine EvP.step (fun _ => by rw [laws_FnSoFar.j1]) ?_
 refine EvP.ng (by simp) ?_
 refine EvP.bind (EvP.of (spec_ReadSegs.ev b hb (by omega)) (P := fun r => r = readSM b) rfl) (fun r hr => ?_)
 subst hr
 refine EvP.either (fun hc => ?_) (fun hc => ?_)
 ·have hw := soFar_whole b hb hc
  rw [hw]
  refine EvP.ip rfl ?_
  refine EvP.ip rfl ?_
  rw [hw] at hsm
  simp only [] at hsm
  refine EvP.bind (EvP.of (laws_sameSegs.same (readSM b).1 (by omega) (fun s hs => by have := hsm.2 s hs; omega)) (P := fun r => r = true) rfl) (fun r hr => ?_)
  subst hr
  exact soFar_j2 l1 b hb1 (by omega) hb hbl hc
 ·refine EvP.either (fun hz => EvP.now ?_) (fun _ => EvP.now rfl)
  rcases soFar_not b hc with h | h
  ·exact absurd hz h
  ·rw [h]; rfl
theorem PureFnSoFar : ∀ (l0 : List Int) (l1 : List Int), (l0.length ≤ 9223372036854775807 ∧ ∀ x0_ ∈ l0, (Lit.int .u8 x0_).wf = true) → (l1.length ≤ 9223372036854775807 ∧ ∀ x0_ ∈ l1, (Lit.int .u8 x0_).wf = true) → ∃ k, laws_FnSoFar.f k l0 l1 = some true :=
 pure_FnSoFar
end Go.Proofs.Ytcjjmfpkhhdmlaa.G


namespace Go.Proofs.Ytcjjmfpkhhdmlaa.G
open Go.RowKit Go.Proofs.YtcjjmfpkhhdmlaaW.PrintWords Go.Proofs.YtcjjmfpkhhdmlaaW.PrintLast Go.Proofs.YtcjjmfpkhhdmlaaW.PrintMore
attribute [local go_sem] max2_int min2_int max_two min_two max_three min_three max_four min_four   -- for this text's walks alone
--import Derived.Deep.Slices
--import Derived.ChangeArms
/-- type t reads as kind d, with values that are wf -/
def Opens {α : Type} (P : Program) (t : TypeId) (d : Kd α) (wf : α → Prop) : Prop :=
 P.cellsOf t = d.sz ∧ ∀ {H : Type} {enc : TypeId × Value → H} {w : World} {base fuel : Nat} {cs : List Value} {x : DataW H × List MemPlace}, DataW.trod enc P w base (fun _ => true) true fuel t cs = some x → ∃ a, d.K w a cs ∧ wf a
theorem opens_int {P : Program} {t : TypeId} {k : IntKind} (hc : P.cellsOf t = 1) (ht : P.underlying t = some (.int k)) : Opens P t (Kd.int k) (fun n => (Lit.int k n).wf = true) :=
 ⟨hc, fun h => by
  obtain ⟨n, rfl, _, hw⟩ := DataW.trod_int ht h
  exact ⟨n, rfl, hw⟩⟩
theorem opens_slice {α : Type} {P : Program} {t e : TypeId} {d : Kd α} {wf : α → Prop} (hc : P.cellsOf t = 1) (ht : P.underlying t = some (.slice e)) (h0 : Opens P e d wf) : Opens P t (Kd.slice e d) (fun l => l.length ≤ 9223372036854775807 ∧ ∀ x ∈ l, wf x) :=
 ⟨hc, fun {H enc w base fuel cs x} h => by
  rcases Go.Deep.open_slice ht h with ⟨rfl, _⟩ | ⟨a, len, cap, m, n, D, Pl, rfl, hb, hl, hm, hmm, rfl, hx⟩
  ·exact ⟨[], ⟨none, 0, rfl, Nat.le_refl _, rfl, by simp, fun h => absurd h (by simp)⟩, by simp, by simp⟩
  ·simp only [if_true] at hmm
   subst hmm
   have build : ∀ n, n ≤ len → ∃ l : List α, l.length = n ∧ (∀ j p, l[j]? = some p → ∃ c, c.length = d.sz ∧ d.K w p c ∧ ∀ i u, c[i]? = some u → w.cell? (a.add (j * d.sz + i)) = some u) ∧ ∀ x ∈ l, wf x := by
    intro n
    induction n with
    | zero => exact fun _ => ⟨[], rfl, by simp, by simp⟩
    | succ n ih =>
     intro hn
     obtain ⟨l, hl1, hl2, hl3⟩ := ih (by omega)
     obtain ⟨cs', h1, h2⟩ := hx n (by omega)
     obtain ⟨b, hk, hw⟩ := h0.2 h2
     obtain ⟨_, hcl, hcell⟩ := World.cells?_some h1
     rw [h0.1] at hcl hcell
     refine ⟨l ++ [b], by simp [hl1], fun j p hj => ?_, fun x hx => ?_⟩
     ·rcases Nat.lt_or_ge j l.length with hlt | hge
      ·rw [List.getElem?_append_left hlt] at hj
       exact hl2 j p hj
      ·obtain rfl : j = l.length := by
        have := (List.getElem?_eq_some_iff.1 hj).1
        simp at this; omega
       obtain rfl : b = p := by simpa using hj
       refine ⟨cs', hcl, hk, fun i u hu => ?_⟩
       have hi : i < d.sz := by rw [← hcl]; exact (List.getElem?_eq_some_iff.1 hu).1
       have := hcell i hi
       rw [Go.Deep.add_add] at this
       rw [hl1, this, hu]
     ·rcases List.mem_append.1 hx with hx | hx
      ·exact hl3 x hx
      ·rw [List.mem_singleton.1 hx]; exact hw
   obtain ⟨l, hl1, hl2, hl3⟩ := build len (Nat.le_refl _)
   subst hl1
   have hm' : m ≤ 9223372036854775807 := hm
   exact ⟨l, ⟨some a, m, rfl, hl, rfl, by omega, fun _ => ⟨a, rfl, hl2⟩⟩, by omega, hl3⟩⟩
/-- a slice argument, opened -/
theorem open_slice_arg {α H : Type} {enc : TypeId × Value → H} {P : Program} {W : World} {base : Nat} {t e : TypeId} {d : Kd α} {wf : List α → Prop} (ho : Opens P t (Kd.slice e d) wf) {a : Option Addr} {len cap : Nat} {dd : DataW H} {ps : List MemPlace}
  (h : DataW.Trod enc P W base (fun _ => true) true t (.slice a len cap) dd ps) : ∃ l : List α, len = l.length ∧ l.length ≤ cap ∧ d.C W a l.length l ∧ wf l := by
 obtain ⟨fuel, hf⟩ := h
 obtain ⟨l, ⟨A, c, e1, hl, hC⟩, hw⟩ := ho.2 hf
 injection e1 with e1 _
 injection e1 with e1 e2 e3
 subst e1; subst e2; subst e3
 exact ⟨l, rfl, hl, hC, hw⟩
end Go.Proofs.Ytcjjmfpkhhdmlaa.G


namespace Go.Proofs.Ytcjjmfpkhhdmlaa.fnSoFar
open Go.ChangeShapes Go.WideShapes Go.ChangeAt Go.RowKit Go.Proofs.Ytcjjmfpkhhdmlaa.G Go.Proofs.YtcjjmfpkhhdmlaaW.PrintWords
open Go.ChangeMaps (open_string shut_string)
theorem own : ownKnob Try.prog.godebug = none := by kernel_rfl
theorem laidOut : laidOutB Try.prog = true := by kernel_rfl
set_option maxRecDepth 100000 in
theorem lifted (os : Os) (started : os.Started) (H : Type) (enc : TypeId × Value → H) :
  ReturnsInHanded {} Try.checked os 14 .any (Rows.fnSoFarSpec.pre6 enc Try.prog Try.f14 Rows.fnSoFarRow.domain false) (Rows.fnSoFarSpec.post enc Try.prog Try.f14 false true false false) := by
 refine returnsInHanded_of_change_sized (C := Try.checked) own started (by kernel_rfl) Try.func14
  (ChangeSpec.witness6 (enc := enc) (C := Try.checked) false ⟨#[], #[.slice none 0 0, .slice none 0 0], []⟩ 8 (by kernel_rfl) (by kernel_rfl) (by kernel_rfl) (by kernel_rfl)) ?_
 intro W base args ds gs before hval0 hW hcnd hsz0 _
 have hval : ∀ (j : Nat) t v, Try.f14.params[j]? = some t → args[j]? = some v → Value.okWide Try.prog W .any base t v := hval0
 have hW' := hW
 obtain ⟨p, q, hA0, hV, rfl, hfz, hnd⟩ := hW
 have hA : DataW.TrodAll enc Try.prog W 0 (fun _ => true) true Try.f14.params.toList args.toList ds p := hA0
 rw [Try.params14] at hA hval
 obtain ⟨v0, vs0, d0, ds0, p0, q0, hargs, rfl, rfl, h0, r0⟩ := trodAll_cons hA
 obtain ⟨v1, vs1, d1, ds1, p1, q1, rfl, rfl, rfl, h1, r1⟩ := trodAll_cons r0
 obtain ⟨rfl, rfl, rfl⟩ := trodAll_nil r1
 obtain rfl : args = #[v0, v1] := by cases args; simp_all
 obtain ⟨rfl, rfl⟩ := trodVars_none hV
 obtain ⟨a0, len0, cap0, rfl⟩ := okWide_slice Try.underlying23 (hval 0 23 v0 rfl rfl)
 have k0 := h0
 have lt0 : ∀ x ∈ p0, x.block < W.heap.size := by obtain ⟨m, hm⟩ := k0; exact DataW.trod_lt m _ _ _ hm
 obtain ⟨l0, rfl, hl0, hC0, w0⟩ := open_slice_arg (opens_slice (by kernel_rfl) Try.underlying23 (opens_int (by kernel_rfl) Try.underlying5)) h0
 obtain ⟨a1, len1, cap1, rfl⟩ := okWide_slice Try.underlying23 (hval 1 23 v1 rfl rfl)
 have k1 := h1
 have lt1 : ∀ x ∈ p1, x.block < W.heap.size := by obtain ⟨m, hm⟩ := k1; exact DataW.trod_lt m _ _ _ hm
 obtain ⟨l1, rfl, hl1, hC1, w1⟩ := open_slice_arg (opens_slice (by kernel_rfl) Try.underlying23 (opens_int (by kernel_rfl) Try.underlying5)) h1
 clear hA0 hval0 hsz0
 obtain ⟨k, hk⟩ := PureFnSoFar l0 l1 w0 w1
 refine (laws_FnSoFar.calls k _ _ l0 _ _ l1 true W hC0 hl0 hC1 hl1 hk).mono fun e W' ⟨he, bel0⟩ => ?_
 have bel : Below W.heap.size W W' := bel0
 subst he
 exact ⟨_, rfl, _, _, _, [], _, [], hW', trodAll_mk1 (shut_bool Try.underlying4 _), (trodAll_cons_mk (Below.trod laidOut (by kernel_rfl) (zI (by kernel_rfl)) k0 bel lt0) (trodAll_cons_mk (Below.trod laidOut (by kernel_rfl) (zI (by kernel_rfl)) k1 bel lt1) trodAll_mk0)), rfl, bel.frame _, fun h => by cases h⟩
theorem over : Rows.fnSoFarRow.holds Try.pinned (OpenSpec.ofChange Rows.fnSoFarSpec) :=
 OpenClaim.holds_of_wide 14 Try.f14 rfl rfl rfl rfl rfl rfl rfl ⟨rfl, rfl, rfl, rfl, rfl⟩ rfl rfl rfl rfl rfl (by kernel_rfl) Try.func14 (by kernel_rfl)
  (zI (by kernel_rfl)) (by unfold Func.isWrapper; first | (rw [if_pos (by decide +kernel)]; kernel_rfl) | (rw [if_neg (by decide +kernel)]; exact ⟨rfl, rfl⟩))
  (fun os started H enc _ => lifted os started H enc)
theorem proved : Rows.FnSoFarSaid := over
#print axioms proved
end Go.Proofs.Ytcjjmfpkhhdmlaa.fnSoFar
namespace Go.Proofs.Ytcjjmfpkhhdmlaa
/-- The row, under a short name, for the claim. -/
theorem fnSoFar_holds : Rows.FnSoFarSaid := fnSoFar.proved
end Go.Proofs.Ytcjjmfpkhhdmlaa

