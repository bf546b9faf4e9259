import Derived.Test.YtcjjmfpkhhdmlaaMFnSoFar2
set_option linter.unusedVariables false
set_option linter.unusedSimpArgs false
namespace Go.Proofs.Ytcjjmfpkhhdmlaa.G
open Go.RowKit Go.Proofs.YtcjjmfpkhhdmlaaW.PrintWords Go.Proofs.YtcjjmfpkhhdmlaaW.PrintLast Go.Proofs.YtcjjmfpkhhdmlaaW.PrintMore
attribute [local go_sem] max2_int min2_int max_two min_two max_three min_three max_four min_four   -- for this text's walks alone
def spec_SegsOk.l0 : Nat → List (S131) → Int → Int → Option (Bool)
 | 0, _, _, _ => none
 | k + 1, x0, x3, x4 => if x4 < (x0.length : Int) then (if 0 ≤ x4 then ((spec_l02Kind.f ((rd_T131 x0 x4).f0)).bind fun t1160 => ((spec_l02Fits.f x3 t1160).bind fun t1162 => (if t1162 = true then (if (((rd_T131 x0 x4).f1).length : Int) > 20000 then (some false) else (if t1160 = 2 then (if (((rd_T131 x0 x4).f1).length : Int) > 0 then (some false) else (if t1160 = 3 then (if (((rd_T131 x0 x4).f1).length : Int) = 0 then (some false) else (spec_SegsOk.l0 k x0 t1160 (wrap64 (x4 + 1)))) else (spec_SegsOk.l0 k x0 t1160 (wrap64 (x4 + 1))))) else (if t1160 = 3 then (if (((rd_T131 x0 x4).f1).length : Int) = 0 then (some false) else (spec_SegsOk.l0 k x0 t1160 (wrap64 (x4 + 1)))) else (spec_SegsOk.l0 k x0 t1160 (wrap64 (x4 + 1)))))) else (some false)))) else (none)) else (some true)
def spec_SegsOk.f (k : Nat) (l0 : List (S131)) : Option (Bool) := if (l0.length : Int) > 300 then (some false) else (spec_SegsOk.l0 k l0 0 0)
set_option maxHeartbeats 8000000 in
set_option maxRecDepth 100000 in
theorem spec_SegsOk.calls (k : Nat) (A0 : Option Addr) (c0 : Nat) (l0 : List (S131)) (r : Bool) (w : World) (hr0 : Kd.C k131 w A0 l0.length l0) (hc0 : l0.length ≤ c0) (h : spec_SegsOk.f k l0 = some r) :
  Calls Try.prog 170 #[.slice A0 l0.length c0] w fun e w' => e = .returned (.bool r) ∧ Drawn0 w w' := by
 have HR0 := zA hr0
 have HC0 := zA hc0
 clear hr0 hc0
 have H : (if (l0.length : Int) > 300 then (some false) else (spec_SegsOk.l0 k l0 0 0)) = some r := h
 clear h
 by_cases c2 : (l0.length : Int) > 300
 ·rw [if_pos c2] at H
  have c2b0 : decide (300 < (l0.length : Int)) = true := zT c2
  have c2b1 : decide (300 < l0.length) = true := zT (by omega)
  clear c2
  obtain rfl := Option.some.inj H
  go_enter Try.func170, Try.ntmps170
  go_wp2
  go_ret
  exact ⟨by first | rfl | (simp; done) | (simp [*]; done), by repeat (first | exact Drawn0.refl _ | apply Drawn0.step)⟩
 ·rw [if_neg c2] at H
  have c2b0 : decide (300 < (l0.length : Int)) = false := decide_eq_false c2
  have c2b1 : decide (300 < l0.length) = false := decide_eq_false (by omega)
  clear c2
  have H' := zA H
  clear H
  go_enter Try.func170, Try.ntmps170
  go_wp2
  go_loopg [3, 4] k (fun kq v3 v4 w' => ∃ (x3_1 : Int) (x4_1 : Int), v3 = .int .i64 x3_1 ∧ v4 = .int .i64 x4_1 ∧ Aside0 (spec_SegsOk.l0 kq l0 x3_1 x4_1 = some r) ∧ Aside0 (kq ≤ k) ∧ Drawn0 w w')
  case atStart => exact ⟨(0), (0), (by first | rfl | (simp; done) | (simp [*]; done)), (by first | rfl | (simp; done) | (simp [*]; done)), H', ⟨Nat.le_refl _⟩, by repeat (first | exact Drawn0.refl _ | apply Drawn0.step)⟩
  case round =>
   clear H'
   try clear c1
   try clear c2
   try clear c2b0
   try clear c2b1
   try clear p2
   obtain ⟨x3_1, x4_1, rfl, rfl, HA, HK1, ⟨m1, rfl⟩⟩ := hrel
   cases gk with
   | zero => exact absurd HA.out (by simp [spec_SegsOk.l0])
   | succ k1 =>
    have H := HA.out
    clear HA
    simp only [spec_SegsOk.l0] at H
    by_cases c3 : x4_1 < (l0.length : Int)
    ·rw [if_pos c3] at H
     have c3b0 : decide (x4_1 < (l0.length : Int)) = true := zT c3
     clear c3
     by_cases c4 : 0 ≤ x4_1
     ·rw [if_pos c4] at H
      have c4b0 : decide (0 ≤ x4_1) = true := zT c4
      clear c4
      replace H := Option.bind_eq_some_iff.mp H
      obtain ⟨t1160, A50, H⟩ := H
      replace H : ((spec_l02Fits.f x3_1 t1160).bind fun t1162 => (if t1162 = true then (if (((rd_T131 l0 x4_1).f1).length : Int) > 20000 then (some false) else (if t1160 = 2 then (if (((rd_T131 l0 x4_1).f1).length : Int) > 0 then (some false) else (if t1160 = 3 then (if (((rd_T131 l0 x4_1).f1).length : Int) = 0 then (some false) else (spec_SegsOk.l0 k1 l0 t1160 (wrap64 (x4_1 + 1)))) else (spec_SegsOk.l0 k1 l0 t1160 (wrap64 (x4_1 + 1))))) else (if t1160 = 3 then (if (((rd_T131 l0 x4_1).f1).length : Int) = 0 then (some false) else (spec_SegsOk.l0 k1 l0 t1160 (wrap64 (x4_1 + 1)))) else (spec_SegsOk.l0 k1 l0 t1160 (wrap64 (x4_1 + 1)))))) else (some false))) = some r := H
      have A5 := zA A50
      clear A50
      replace H := Option.bind_eq_some_iff.mp H
      obtain ⟨t1162, A60, H⟩ := H
      replace H : (if t1162 = true then (if (((rd_T131 l0 x4_1).f1).length : Int) > 20000 then (some false) else (if t1160 = 2 then (if (((rd_T131 l0 x4_1).f1).length : Int) > 0 then (some false) else (if t1160 = 3 then (if (((rd_T131 l0 x4_1).f1).length : Int) = 0 then (some false) else (spec_SegsOk.l0 k1 l0 t1160 (wrap64 (x4_1 + 1)))) else (spec_SegsOk.l0 k1 l0 t1160 (wrap64 (x4_1 + 1))))) else (if t1160 = 3 then (if (((rd_T131 l0 x4_1).f1).length : Int) = 0 then (some false) else (spec_SegsOk.l0 k1 l0 t1160 (wrap64 (x4_1 + 1)))) else (spec_SegsOk.l0 k1 l0 t1160 (wrap64 (x4_1 + 1)))))) else (some false)) = some r := H
      have A6 := zA A60
      clear A60
      by_cases c7 : t1162 = true
      ·subst c7
       have H1 : (if (((rd_T131 l0 x4_1).f1).length : Int) > 20000 then (some false) else (if t1160 = 2 then (if (((rd_T131 l0 x4_1).f1).length : Int) > 0 then (some false) else (if t1160 = 3 then (if (((rd_T131 l0 x4_1).f1).length : Int) = 0 then (some false) else (spec_SegsOk.l0 k1 l0 t1160 (wrap64 (x4_1 + 1)))) else (spec_SegsOk.l0 k1 l0 t1160 (wrap64 (x4_1 + 1))))) else (if t1160 = 3 then (if (((rd_T131 l0 x4_1).f1).length : Int) = 0 then (some false) else (spec_SegsOk.l0 k1 l0 t1160 (wrap64 (x4_1 + 1)))) else (spec_SegsOk.l0 k1 l0 t1160 (wrap64 (x4_1 + 1)))))) = some r := by rw [if_pos rfl] at H; exact H
       clear H
       have H := H1
       clear H1
       by_cases c8 : (((rd_T131 l0 x4_1).f1).length : Int) > 20000
       ·rw [if_pos c8] at H
        have c8b0 : decide (20000 < (((rd_T131 l0 x4_1).f1).length : Int)) = true := zT c8
        have c8b1 : decide (20000 < ((rd_T131 l0 x4_1).f1).length) = true := zT (by omega)
        clear c8
        obtain rfl := Option.some.inj H
        have p1159 : 0 ≤ (x4_1 : Int) := zI (by first | (with_reducible assumption) | assumption)
        have q1159 : x4_1 < (l0.length : Int) := zI (by first | (with_reducible assumption) | assumption)
        obtain ⟨ad1159, A1159_1, c1159_1, e1159, hx1159_0, hx1159_1, hl1159_1, hi1159_1⟩ := at_T131 HR0.out x4_1 p1159 q1159
        cases e1159
        have HR1159_1 := zA hi1159_1
        have HC1159_1 := zA hl1159_1
        clear hi1159_1 hl1159_1
        replace p1159 := eq_true p1159
        replace q1159 := eq_true q1159
        go_wp2_with (first | ((with_reducible refine gate_callee (f := 132) rfl ?_); refine goesL_ (some 21) rfl rfl Try.func132 (by kernel_rfl) rfl #[.int .i64 ((rd_T131 l0 x4_1).f0)] rfl (by (try simp only [zU, zV, zW]); first | done | rfl | (simp only [zR, zQ]; rfl)) ?_; (with_reducible refine (spec_l02Kind.calls ((rd_T131 l0 x4_1).f0) t1160 _ A5.out).mono ?_); rintro e w' ⟨rfl, ⟨nd, rfl⟩⟩; refine ⟨_, rfl, ?_⟩; have p1161 : 0 ≤ (x4_1 : Int) := zI (by first | (with_reducible assumption) | assumption); have q1161 : x4_1 < (l0.length : Int) := zI (by first | (with_reducible assumption) | assumption); obtain ⟨ad1161, A1161_1, c1161_1, e1161, hx1161_0, hx1161_1, hl1161_1, hi1161_1⟩ := at_T131 HR0.out x4_1 p1161 q1161; obtain rfl : ad1159 = ad1161 := (by injection e1161); have HR1161_1 := zA hi1161_1; have HC1161_1 := zA hl1161_1; clear hi1161_1 hl1161_1; replace p1161 := eq_true p1161; replace q1161 := eq_true q1161; have ea_ := Option.some.inj (hx1159_1.symm.trans hx1161_1); injection ea_ with ea_ en_ ec_; subst ea_; subst ec_; clear en_) | ((with_reducible refine gate_callee (f := 163) rfl ?_); refine goesL_ (some 30) rfl rfl Try.func163 (by kernel_rfl) rfl #[.int .i64 x3_1, .int .i64 t1160] rfl (by (try simp only [zU, zV, zW]); first | done | rfl | (simp only [zR, zQ]; rfl)) ?_; (with_reducible refine (spec_l02Fits.calls x3_1 t1160 true _ A6.out).mono ?_); rintro e w' ⟨rfl, ⟨nd, rfl⟩⟩; refine ⟨_, rfl, ?_⟩))
        go_ret
        exact ⟨by first | rfl | (simp; done) | (simp [*]; done), by repeat (first | exact Drawn0.refl _ | apply Drawn0.step)⟩
       ·rw [if_neg c8] at H
        have c8b0 : decide (20000 < (((rd_T131 l0 x4_1).f1).length : Int)) = false := decide_eq_false c8
        have c8b1 : decide (20000 < ((rd_T131 l0 x4_1).f1).length) = false := decide_eq_false (by omega)
        clear c8
        by_cases c9 : t1160 = 2
        ·rw [if_pos c9] at H
         have c9b0 : (t1160 == 2) = true := beq_iff_eq.mpr c9
         have c9b1 : (t1160 != 2) = false := bne_eq_false_iff_eq.mpr c9
         clear c9
         by_cases c10 : (((rd_T131 l0 x4_1).f1).length : Int) > 0
         ·rw [if_pos c10] at H
          have c10b0 : decide (0 < (((rd_T131 l0 x4_1).f1).length : Int)) = true := zT c10
          have c10b1 : decide (0 < ((rd_T131 l0 x4_1).f1).length) = true := zT (by omega)
          clear c10
          obtain rfl := Option.some.inj H
          have p1159 : 0 ≤ (x4_1 : Int) := zI (by first | (with_reducible assumption) | assumption)
          have q1159 : x4_1 < (l0.length : Int) := zI (by first | (with_reducible assumption) | assumption)
          obtain ⟨ad1159, A1159_1, c1159_1, e1159, hx1159_0, hx1159_1, hl1159_1, hi1159_1⟩ := at_T131 HR0.out x4_1 p1159 q1159
          cases e1159
          have HR1159_1 := zA hi1159_1
          have HC1159_1 := zA hl1159_1
          clear hi1159_1 hl1159_1
          replace p1159 := eq_true p1159
          replace q1159 := eq_true q1159
          go_wp2_with (first | ((with_reducible refine gate_callee (f := 132) rfl ?_); refine goesL_ (some 21) rfl rfl Try.func132 (by kernel_rfl) rfl #[.int .i64 ((rd_T131 l0 x4_1).f0)] rfl (by (try simp only [zU, zV, zW]); first | done | rfl | (simp only [zR, zQ]; rfl)) ?_; (with_reducible refine (spec_l02Kind.calls ((rd_T131 l0 x4_1).f0) t1160 _ A5.out).mono ?_); rintro e w' ⟨rfl, ⟨nd, rfl⟩⟩; refine ⟨_, rfl, ?_⟩; have p1161 : 0 ≤ (x4_1 : Int) := zI (by first | (with_reducible assumption) | assumption); have q1161 : x4_1 < (l0.length : Int) := zI (by first | (with_reducible assumption) | assumption); obtain ⟨ad1161, A1161_1, c1161_1, e1161, hx1161_0, hx1161_1, hl1161_1, hi1161_1⟩ := at_T131 HR0.out x4_1 p1161 q1161; obtain rfl : ad1159 = ad1161 := (by injection e1161); have HR1161_1 := zA hi1161_1; have HC1161_1 := zA hl1161_1; clear hi1161_1 hl1161_1; replace p1161 := eq_true p1161; replace q1161 := eq_true q1161; have ea_ := Option.some.inj (hx1159_1.symm.trans hx1161_1); injection ea_ with ea_ en_ ec_; subst ea_; subst ec_; clear en_) | ((with_reducible refine gate_callee (f := 163) rfl ?_); refine goesL_ (some 30) rfl rfl Try.func163 (by kernel_rfl) rfl #[.int .i64 x3_1, .int .i64 t1160] rfl (by (try simp only [zU, zV, zW]); first | done | rfl | (simp only [zR, zQ]; rfl)) ?_; (with_reducible refine (spec_l02Fits.calls x3_1 t1160 true _ A6.out).mono ?_); rintro e w' ⟨rfl, ⟨nd, rfl⟩⟩; refine ⟨_, rfl, ?_⟩))
          go_ret
          exact ⟨by first | rfl | (simp; done) | (simp [*]; done), by repeat (first | exact Drawn0.refl _ | apply Drawn0.step)⟩
         ·rw [if_neg c10] at H
          have c10b0 : decide (0 < (((rd_T131 l0 x4_1).f1).length : Int)) = false := decide_eq_false c10
          have c10b1 : decide (0 < ((rd_T131 l0 x4_1).f1).length) = false := decide_eq_false (by omega)
          clear c10
          by_cases c11 : t1160 = 3
          ·rw [if_pos c11] at H
           have c11b0 : (t1160 == 3) = true := beq_iff_eq.mpr c11
           have c11b1 : (t1160 != 3) = false := bne_eq_false_iff_eq.mpr c11
           clear c11
           by_cases c12 : (((rd_T131 l0 x4_1).f1).length : Int) = 0
           ·rw [if_pos c12] at H
            have c12b0 : ((((rd_T131 l0 x4_1).f1).length : Int) == 0) = true := beq_iff_eq.mpr c12
            have c12b1 : ((((rd_T131 l0 x4_1).f1).length : Int) != 0) = false := bne_eq_false_iff_eq.mpr c12
            clear c12
            obtain rfl := Option.some.inj H
            have p1159 : 0 ≤ (x4_1 : Int) := zI (by first | (with_reducible assumption) | assumption)
            have q1159 : x4_1 < (l0.length : Int) := zI (by first | (with_reducible assumption) | assumption)
            obtain ⟨ad1159, A1159_1, c1159_1, e1159, hx1159_0, hx1159_1, hl1159_1, hi1159_1⟩ := at_T131 HR0.out x4_1 p1159 q1159
            cases e1159
            have HR1159_1 := zA hi1159_1
            have HC1159_1 := zA hl1159_1
            clear hi1159_1 hl1159_1
            replace p1159 := eq_true p1159
            replace q1159 := eq_true q1159
            go_wp2_with (first | ((with_reducible refine gate_callee (f := 132) rfl ?_); refine goesL_ (some 21) rfl rfl Try.func132 (by kernel_rfl) rfl #[.int .i64 ((rd_T131 l0 x4_1).f0)] rfl (by (try simp only [zU, zV, zW]); first | done | rfl | (simp only [zR, zQ]; rfl)) ?_; (with_reducible refine (spec_l02Kind.calls ((rd_T131 l0 x4_1).f0) t1160 _ A5.out).mono ?_); rintro e w' ⟨rfl, ⟨nd, rfl⟩⟩; refine ⟨_, rfl, ?_⟩; have p1161 : 0 ≤ (x4_1 : Int) := zI (by first | (with_reducible assumption) | assumption); have q1161 : x4_1 < (l0.length : Int) := zI (by first | (with_reducible assumption) | assumption); obtain ⟨ad1161, A1161_1, c1161_1, e1161, hx1161_0, hx1161_1, hl1161_1, hi1161_1⟩ := at_T131 HR0.out x4_1 p1161 q1161; obtain rfl : ad1159 = ad1161 := (by injection e1161); have HR1161_1 := zA hi1161_1; have HC1161_1 := zA hl1161_1; clear hi1161_1 hl1161_1; replace p1161 := eq_true p1161; replace q1161 := eq_true q1161; have ea_ := Option.some.inj (hx1159_1.symm.trans hx1161_1); injection ea_ with ea_ en_ ec_; subst ea_; subst ec_; clear en_) | ((with_reducible refine gate_callee (f := 163) rfl ?_); refine goesL_ (some 30) rfl rfl Try.func163 (by kernel_rfl) rfl #[.int .i64 x3_1, .int .i64 t1160] rfl (by (try simp only [zU, zV, zW]); first | done | rfl | (simp only [zR, zQ]; rfl)) ?_; (with_reducible refine (spec_l02Fits.calls x3_1 t1160 true _ A6.out).mono ?_); rintro e w' ⟨rfl, ⟨nd, rfl⟩⟩; refine ⟨_, rfl, ?_⟩))
            go_ret
            exact ⟨by first | rfl | (simp; done) | (simp [*]; done), by repeat (first | exact Drawn0.refl _ | apply Drawn0.step)⟩
           ·rw [if_neg c12] at H
            have c12b0 : ((((rd_T131 l0 x4_1).f1).length : Int) == 0) = false := beq_eq_false_iff_ne.mpr c12
            have c12b1 : ((((rd_T131 l0 x4_1).f1).length : Int) != 0) = true := bne_iff_ne.mpr c12
            have c12b2 : ¬ (((rd_T131 l0 x4_1).f1) = []) := fun h_ => c12 (by rw [h_]; rfl)
            have H' := zA H
            clear H
            have p1159 : 0 ≤ (x4_1 : Int) := zI (by first | (with_reducible assumption) | assumption)
            have q1159 : x4_1 < (l0.length : Int) := zI (by first | (with_reducible assumption) | assumption)
            obtain ⟨ad1159, A1159_1, c1159_1, e1159, hx1159_0, hx1159_1, hl1159_1, hi1159_1⟩ := at_T131 HR0.out x4_1 p1159 q1159
            cases e1159
            have HR1159_1 := zA hi1159_1
            have HC1159_1 := zA hl1159_1
            clear hi1159_1 hl1159_1
            replace p1159 := eq_true p1159
            replace q1159 := eq_true q1159
            go_wp2_with (first | ((with_reducible refine gate_callee (f := 132) rfl ?_); refine goesL_ (some 21) rfl rfl Try.func132 (by kernel_rfl) rfl #[.int .i64 ((rd_T131 l0 x4_1).f0)] rfl (by (try simp only [zU, zV, zW]); first | done | rfl | (simp only [zR, zQ]; rfl)) ?_; (with_reducible refine (spec_l02Kind.calls ((rd_T131 l0 x4_1).f0) t1160 _ A5.out).mono ?_); rintro e w' ⟨rfl, ⟨nd, rfl⟩⟩; refine ⟨_, rfl, ?_⟩; have p1161 : 0 ≤ (x4_1 : Int) := zI (by first | (with_reducible assumption) | assumption); have q1161 : x4_1 < (l0.length : Int) := zI (by first | (with_reducible assumption) | assumption); obtain ⟨ad1161, A1161_1, c1161_1, e1161, hx1161_0, hx1161_1, hl1161_1, hi1161_1⟩ := at_T131 HR0.out x4_1 p1161 q1161; obtain rfl : ad1159 = ad1161 := (by injection e1161); have HR1161_1 := zA hi1161_1; have HC1161_1 := zA hl1161_1; clear hi1161_1 hl1161_1; replace p1161 := eq_true p1161; replace q1161 := eq_true q1161; have ea_ := Option.some.inj (hx1159_1.symm.trans hx1161_1); injection ea_ with ea_ en_ ec_; subst ea_; subst ec_; clear en_) | ((with_reducible refine gate_callee (f := 163) rfl ?_); refine goesL_ (some 30) rfl rfl Try.func163 (by kernel_rfl) rfl #[.int .i64 x3_1, .int .i64 t1160] rfl (by (try simp only [zU, zV, zW]); first | done | rfl | (simp only [zR, zQ]; rfl)) ?_; (with_reducible refine (spec_l02Fits.calls x3_1 t1160 true _ A6.out).mono ?_); rintro e w' ⟨rfl, ⟨nd, rfl⟩⟩; refine ⟨_, rfl, ?_⟩))
            go_roundg k1
            case measure => have := HK1.out; omega
            case rel => exact ⟨(t1160), (wrap64 (x4_1 + 1)), (by first | rfl | (simp; done) | (simp [*]; done)), (by first | rfl | (simp; done) | (simp [*]; done)), H', ⟨by have := HK1.out; omega⟩, by repeat (first | exact Drawn0.refl _ | apply Drawn0.step)⟩
          ·rw [if_neg c11] at H
           have c11b0 : (t1160 == 3) = false := beq_eq_false_iff_ne.mpr c11
           have c11b1 : (t1160 != 3) = true := bne_iff_ne.mpr c11
           have H' := zA H
           clear H
           have p1159 : 0 ≤ (x4_1 : Int) := zI (by first | (with_reducible assumption) | assumption)
           have q1159 : x4_1 < (l0.length : Int) := zI (by first | (with_reducible assumption) | assumption)
           obtain ⟨ad1159, A1159_1, c1159_1, e1159, hx1159_0, hx1159_1, hl1159_1, hi1159_1⟩ := at_T131 HR0.out x4_1 p1159 q1159
           cases e1159
           have HR1159_1 := zA hi1159_1
           have HC1159_1 := zA hl1159_1
           clear hi1159_1 hl1159_1
           replace p1159 := eq_true p1159
           replace q1159 := eq_true q1159
           go_wp2_with (first | ((with_reducible refine gate_callee (f := 132) rfl ?_); refine goesL_ (some 21) rfl rfl Try.func132 (by kernel_rfl) rfl #[.int .i64 ((rd_T131 l0 x4_1).f0)] rfl (by (try simp only [zU, zV, zW]); first | done | rfl | (simp only [zR, zQ]; rfl)) ?_; (with_reducible refine (spec_l02Kind.calls ((rd_T131 l0 x4_1).f0) t1160 _ A5.out).mono ?_); rintro e w' ⟨rfl, ⟨nd, rfl⟩⟩; refine ⟨_, rfl, ?_⟩; have p1161 : 0 ≤ (x4_1 : Int) := zI (by first | (with_reducible assumption) | assumption); have q1161 : x4_1 < (l0.length : Int) := zI (by first | (with_reducible assumption) | assumption); obtain ⟨ad1161, A1161_1, c1161_1, e1161, hx1161_0, hx1161_1, hl1161_1, hi1161_1⟩ := at_T131 HR0.out x4_1 p1161 q1161; obtain rfl : ad1159 = ad1161 := (by injection e1161); have HR1161_1 := zA hi1161_1; have HC1161_1 := zA hl1161_1; clear hi1161_1 hl1161_1; replace p1161 := eq_true p1161; replace q1161 := eq_true q1161; have ea_ := Option.some.inj (hx1159_1.symm.trans hx1161_1); injection ea_ with ea_ en_ ec_; subst ea_; subst ec_; clear en_) | ((with_reducible refine gate_callee (f := 163) rfl ?_); refine goesL_ (some 30) rfl rfl Try.func163 (by kernel_rfl) rfl #[.int .i64 x3_1, .int .i64 t1160] rfl (by (try simp only [zU, zV, zW]); first | done | rfl | (simp only [zR, zQ]; rfl)) ?_; (with_reducible refine (spec_l02Fits.calls x3_1 t1160 true _ A6.out).mono ?_); rintro e w' ⟨rfl, ⟨nd, rfl⟩⟩; refine ⟨_, rfl, ?_⟩))
           go_roundg k1
           case measure => have := HK1.out; omega
           case rel => exact ⟨(t1160), (wrap64 (x4_1 + 1)), (by first | rfl | (simp; done) | (simp [*]; done)), (by first | rfl | (simp; done) | (simp [*]; done)), H', ⟨by have := HK1.out; omega⟩, by repeat (first | exact Drawn0.refl _ | apply Drawn0.step)⟩
        ·rw [if_neg c9] at H
         have c9b0 : (t1160 == 2) = false := beq_eq_false_iff_ne.mpr c9
         have c9b1 : (t1160 != 2) = true := bne_iff_ne.mpr c9
         by_cases c13 : t1160 = 3
         ·rw [if_pos c13] at H
          have c13b0 : (t1160 == 3) = true := beq_iff_eq.mpr c13
          have c13b1 : (t1160 != 3) = false := bne_eq_false_iff_eq.mpr c13
          clear c13
          by_cases c14 : (((rd_T131 l0 x4_1).f1).length : Int) = 0
          ·rw [if_pos c14] at H
           have c14b0 : ((((rd_T131 l0 x4_1).f1).length : Int) == 0) = true := beq_iff_eq.mpr c14
           have c14b1 : ((((rd_T131 l0 x4_1).f1).length : Int) != 0) = false := bne_eq_false_iff_eq.mpr c14
           clear c14
           obtain rfl := Option.some.inj H
           have p1159 : 0 ≤ (x4_1 : Int) := zI (by first | (with_reducible assumption) | assumption)
           have q1159 : x4_1 < (l0.length : Int) := zI (by first | (with_reducible assumption) | assumption)
           obtain ⟨ad1159, A1159_1, c1159_1, e1159, hx1159_0, hx1159_1, hl1159_1, hi1159_1⟩ := at_T131 HR0.out x4_1 p1159 q1159
           cases e1159
           have HR1159_1 := zA hi1159_1
           have HC1159_1 := zA hl1159_1
           clear hi1159_1 hl1159_1
           replace p1159 := eq_true p1159
           replace q1159 := eq_true q1159
           go_wp2_with (first | ((with_reducible refine gate_callee (f := 132) rfl ?_); refine goesL_ (some 21) rfl rfl Try.func132 (by kernel_rfl) rfl #[.int .i64 ((rd_T131 l0 x4_1).f0)] rfl (by (try simp only [zU, zV, zW]); first | done | rfl | (simp only [zR, zQ]; rfl)) ?_; (with_reducible refine (spec_l02Kind.calls ((rd_T131 l0 x4_1).f0) t1160 _ A5.out).mono ?_); rintro e w' ⟨rfl, ⟨nd, rfl⟩⟩; refine ⟨_, rfl, ?_⟩; have p1161 : 0 ≤ (x4_1 : Int) := zI (by first | (with_reducible assumption) | assumption); have q1161 : x4_1 < (l0.length : Int) := zI (by first | (with_reducible assumption) | assumption); obtain ⟨ad1161, A1161_1, c1161_1, e1161, hx1161_0, hx1161_1, hl1161_1, hi1161_1⟩ := at_T131 HR0.out x4_1 p1161 q1161; obtain rfl : ad1159 = ad1161 := (by injection e1161); have HR1161_1 := zA hi1161_1; have HC1161_1 := zA hl1161_1; clear hi1161_1 hl1161_1; replace p1161 := eq_true p1161; replace q1161 := eq_true q1161; have ea_ := Option.some.inj (hx1159_1.symm.trans hx1161_1); injection ea_ with ea_ en_ ec_; subst ea_; subst ec_; clear en_) | ((with_reducible refine gate_callee (f := 163) rfl ?_); refine goesL_ (some 30) rfl rfl Try.func163 (by kernel_rfl) rfl #[.int .i64 x3_1, .int .i64 t1160] rfl (by (try simp only [zU, zV, zW]); first | done | rfl | (simp only [zR, zQ]; rfl)) ?_; (with_reducible refine (spec_l02Fits.calls x3_1 t1160 true _ A6.out).mono ?_); rintro e w' ⟨rfl, ⟨nd, rfl⟩⟩; refine ⟨_, rfl, ?_⟩))
           go_ret
           exact ⟨by first | rfl | (simp; done) | (simp [*]; done), by repeat (first | exact Drawn0.refl _ | apply Drawn0.step)⟩
          ·rw [if_neg c14] at H
           have c14b0 : ((((rd_T131 l0 x4_1).f1).length : Int) == 0) = false := beq_eq_false_iff_ne.mpr c14
           have c14b1 : ((((rd_T131 l0 x4_1).f1).length : Int) != 0) = true := bne_iff_ne.mpr c14
           have c14b2 : ¬ (((rd_T131 l0 x4_1).f1) = []) := fun h_ => c14 (by rw [h_]; rfl)
           have H' := zA H
           clear H
           have p1159 : 0 ≤ (x4_1 : Int) := zI (by first | (with_reducible assumption) | assumption)
           have q1159 : x4_1 < (l0.length : Int) := zI (by first | (with_reducible assumption) | assumption)
           obtain ⟨ad1159, A1159_1, c1159_1, e1159, hx1159_0, hx1159_1, hl1159_1, hi1159_1⟩ := at_T131 HR0.out x4_1 p1159 q1159
           cases e1159
           have HR1159_1 := zA hi1159_1
           have HC1159_1 := zA hl1159_1
           clear hi1159_1 hl1159_1
           replace p1159 := eq_true p1159
           replace q1159 := eq_true q1159
           go_wp2_with (first | ((with_reducible refine gate_callee (f := 132) rfl ?_); refine goesL_ (some 21) rfl rfl Try.func132 (by kernel_rfl) rfl #[.int .i64 ((rd_T131 l0 x4_1).f0)] rfl (by (try simp only [zU, zV, zW]); first | done | rfl | (simp only [zR, zQ]; rfl)) ?_; (with_reducible refine (spec_l02Kind.calls ((rd_T131 l0 x4_1).f0) t1160 _ A5.out).mono ?_); rintro e w' ⟨rfl, ⟨nd, rfl⟩⟩; refine ⟨_, rfl, ?_⟩; have p1161 : 0 ≤ (x4_1 : Int) := zI (by first | (with_reducible assumption) | assumption); have q1161 : x4_1 < (l0.length : Int) := zI (by first | (with_reducible assumption) | assumption); obtain ⟨ad1161, A1161_1, c1161_1, e1161, hx1161_0, hx1161_1, hl1161_1, hi1161_1⟩ := at_T131 HR0.out x4_1 p1161 q1161; obtain rfl : ad1159 = ad1161 := (by injection e1161); have HR1161_1 := zA hi1161_1; have HC1161_1 := zA hl1161_1; clear hi1161_1 hl1161_1; replace p1161 := eq_true p1161; replace q1161 := eq_true q1161; have ea_ := Option.some.inj (hx1159_1.symm.trans hx1161_1); injection ea_ with ea_ en_ ec_; subst ea_; subst ec_; clear en_) | ((with_reducible refine gate_callee (f := 163) rfl ?_); refine goesL_ (some 30) rfl rfl Try.func163 (by kernel_rfl) rfl #[.int .i64 x3_1, .int .i64 t1160] rfl (by (try simp only [zU, zV, zW]); first | done | rfl | (simp only [zR, zQ]; rfl)) ?_; (with_reducible refine (spec_l02Fits.calls x3_1 t1160 true _ A6.out).mono ?_); rintro e w' ⟨rfl, ⟨nd, rfl⟩⟩; refine ⟨_, rfl, ?_⟩))
           go_roundg k1
           case measure => have := HK1.out; omega
           case rel => exact ⟨(t1160), (wrap64 (x4_1 + 1)), (by first | rfl | (simp; done) | (simp [*]; done)), (by first | rfl | (simp; done) | (simp [*]; done)), H', ⟨by have := HK1.out; omega⟩, by repeat (first | exact Drawn0.refl _ | apply Drawn0.step)⟩
         ·rw [if_neg c13] at H
          have c13b0 : (t1160 == 3) = false := beq_eq_false_iff_ne.mpr c13
          have c13b1 : (t1160 != 3) = true := bne_iff_ne.mpr c13
          have H' := zA H
          clear H
          have p1159 : 0 ≤ (x4_1 : Int) := zI (by first | (with_reducible assumption) | assumption)
          have q1159 : x4_1 < (l0.length : Int) := zI (by first | (with_reducible assumption) | assumption)
          obtain ⟨ad1159, A1159_1, c1159_1, e1159, hx1159_0, hx1159_1, hl1159_1, hi1159_1⟩ := at_T131 HR0.out x4_1 p1159 q1159
          cases e1159
          have HR1159_1 := zA hi1159_1
          have HC1159_1 := zA hl1159_1
          clear hi1159_1 hl1159_1
          replace p1159 := eq_true p1159
          replace q1159 := eq_true q1159
          go_wp2_with (first | ((with_reducible refine gate_callee (f := 132) rfl ?_); refine goesL_ (some 21) rfl rfl Try.func132 (by kernel_rfl) rfl #[.int .i64 ((rd_T131 l0 x4_1).f0)] rfl (by (try simp only [zU, zV, zW]); first | done | rfl | (simp only [zR, zQ]; rfl)) ?_; (with_reducible refine (spec_l02Kind.calls ((rd_T131 l0 x4_1).f0) t1160 _ A5.out).mono ?_); rintro e w' ⟨rfl, ⟨nd, rfl⟩⟩; refine ⟨_, rfl, ?_⟩; have p1161 : 0 ≤ (x4_1 : Int) := zI (by first | (with_reducible assumption) | assumption); have q1161 : x4_1 < (l0.length : Int) := zI (by first | (with_reducible assumption) | assumption); obtain ⟨ad1161, A1161_1, c1161_1, e1161, hx1161_0, hx1161_1, hl1161_1, hi1161_1⟩ := at_T131 HR0.out x4_1 p1161 q1161; obtain rfl : ad1159 = ad1161 := (by injection e1161); have HR1161_1 := zA hi1161_1; have HC1161_1 := zA hl1161_1; clear hi1161_1 hl1161_1; replace p1161 := eq_true p1161; replace q1161 := eq_true q1161; have ea_ := Option.some.inj (hx1159_1.symm.trans hx1161_1); injection ea_ with ea_ en_ ec_; subst ea_; subst ec_; clear en_) | ((with_reducible refine gate_callee (f := 163) rfl ?_); refine goesL_ (some 30) rfl rfl Try.func163 (by kernel_rfl) rfl #[.int .i64 x3_1, .int .i64 t1160] rfl (by (try simp only [zU, zV, zW]); first | done | rfl | (simp only [zR, zQ]; rfl)) ?_; (with_reducible refine (spec_l02Fits.calls x3_1 t1160 true _ A6.out).mono ?_); rintro e w' ⟨rfl, ⟨nd, rfl⟩⟩; refine ⟨_, rfl, ?_⟩))
          go_roundg k1
          case measure => have := HK1.out; omega
          case rel => exact ⟨(t1160), (wrap64 (x4_1 + 1)), (by first | rfl | (simp; done) | (simp [*]; done)), (by first | rfl | (simp; done) | (simp [*]; done)), H', ⟨by have := HK1.out; omega⟩, by repeat (first | exact Drawn0.refl _ | apply Drawn0.step)⟩
      ·replace c7 := Bool.eq_false_iff.mpr c7
       subst c7
       have H1 : (some false) = some r := by rw [if_neg (show ¬ (false = true) by decide)] at H; exact H
       clear H
       have H := H1
       clear H1
       obtain rfl := Option.some.inj H
       have p1159 : 0 ≤ (x4_1 : Int) := zI (by first | (with_reducible assumption) | assumption)
       have q1159 : x4_1 < (l0.length : Int) := zI (by first | (with_reducible assumption) | assumption)
       obtain ⟨ad1159, A1159_1, c1159_1, e1159, hx1159_0, hx1159_1, hl1159_1, hi1159_1⟩ := at_T131 HR0.out x4_1 p1159 q1159
       cases e1159
       have HR1159_1 := zA hi1159_1
       have HC1159_1 := zA hl1159_1
       clear hi1159_1 hl1159_1
       replace p1159 := eq_true p1159
       replace q1159 := eq_true q1159
       go_wp2_with (first | ((with_reducible refine gate_callee (f := 132) rfl ?_); refine goesL_ (some 21) rfl rfl Try.func132 (by kernel_rfl) rfl #[.int .i64 ((rd_T131 l0 x4_1).f0)] rfl (by (try simp only [zU, zV, zW]); first | done | rfl | (simp only [zR, zQ]; rfl)) ?_; (with_reducible refine (spec_l02Kind.calls ((rd_T131 l0 x4_1).f0) t1160 _ A5.out).mono ?_); rintro e w' ⟨rfl, ⟨nd, rfl⟩⟩; refine ⟨_, rfl, ?_⟩; have p1161 : 0 ≤ (x4_1 : Int) := zI (by first | (with_reducible assumption) | assumption); have q1161 : x4_1 < (l0.length : Int) := zI (by first | (with_reducible assumption) | assumption); obtain ⟨ad1161, A1161_1, c1161_1, e1161, hx1161_0, hx1161_1, hl1161_1, hi1161_1⟩ := at_T131 HR0.out x4_1 p1161 q1161; obtain rfl : ad1159 = ad1161 := (by injection e1161); have HR1161_1 := zA hi1161_1; have HC1161_1 := zA hl1161_1; clear hi1161_1 hl1161_1; replace p1161 := eq_true p1161; replace q1161 := eq_true q1161; have ea_ := Option.some.inj (hx1159_1.symm.trans hx1161_1); injection ea_ with ea_ en_ ec_; subst ea_; subst ec_; clear en_) | ((with_reducible refine gate_callee (f := 163) rfl ?_); refine goesL_ (some 30) rfl rfl Try.func163 (by kernel_rfl) rfl #[.int .i64 x3_1, .int .i64 t1160] rfl (by (try simp only [zU, zV, zW]); first | done | rfl | (simp only [zR, zQ]; rfl)) ?_; (with_reducible refine (spec_l02Fits.calls x3_1 t1160 false _ A6.out).mono ?_); rintro e w' ⟨rfl, ⟨nd, rfl⟩⟩; refine ⟨_, rfl, ?_⟩))
       go_ret
       exact ⟨by first | rfl | (simp; done) | (simp [*]; done), by repeat (first | exact Drawn0.refl _ | apply Drawn0.step)⟩
     ·rw [if_neg c4] at H
      exact absurd H (by simp)
    ·rw [if_neg c3] at H
     have c3b0 : decide (x4_1 < (l0.length : Int)) = false := decide_eq_false c3
     clear c3
     obtain rfl := Option.some.inj H
     go_wp2
     go_ret
     exact ⟨by first | rfl | (simp; done) | (simp [*]; done), by repeat (first | exact Drawn0.refl _ | apply Drawn0.step)⟩
theorem spec_SegsOk.l0_ev (l : List S131) (hl : l.length ≤ 100000) : ∀ (d i : Nat) (w : Int), i + d = l.length → EvP (fun k => spec_SegsOk.l0 k l w (i : Int)) (fun _ => True) := by
 intro d
 induction d with
 | zero =>
  intro i w hi
  exact EvP.step (fun _ => by rw [spec_SegsOk.l0]) (EvP.ng (by omega) (EvP.now trivial))
 | succ d ih =>
  intro i w hi
  refine EvP.step (fun _ => by rw [spec_SegsOk.l0]) (EvP.ip (by omega) (EvP.ip (by omega) ?_))
  rw [wrap_succ i (by omega)]
  refine EvP.val (kind_val _) (EvP.val (fits_val _ _) ?_)
  refine EvP.either (fun _ => ?_) (fun _ => EvP.now trivial)
  refine EvP.either (fun _ => EvP.now trivial) (fun _ => ?_)
  refine EvP.either (fun _ => ?_) (fun _ => ?_)
  ·refine EvP.either (fun _ => EvP.now trivial) (fun _ => ?_)
   exact EvP.either (fun _ => EvP.either (fun _ => EvP.now trivial) (fun _ => ih (i + 1) _ (by omega))) (fun _ => ih (i + 1) _ (by omega))
  ·exact EvP.either (fun _ => EvP.either (fun _ => EvP.now trivial) (fun _ => ih (i + 1) _ (by omega))) (fun _ => ih (i + 1) _ (by omega))
theorem spec_SegsOk.ev (l : List S131) (hl : l.length ≤ 100000) : EvP (fun k => spec_SegsOk.f k l) (fun _ => True) := by
 unfold spec_SegsOk.f
 exact EvP.either (fun _ => EvP.now trivial) (fun _ => spec_SegsOk.l0_ev l hl l.length 0 0 (Nat.zero_add _))
end Go.Proofs.Ytcjjmfpkhhdmlaa.G


namespace Go.Proofs.Ytcjjmfpkhhdmlaa.G
open Go.RowKit Go.Proofs.YtcjjmfpkhhdmlaaW.PrintWords Go.Proofs.YtcjjmfpkhhdmlaaW.PrintLast Go.Proofs.YtcjjmfpkhhdmlaaW.PrintMore
attribute [local go_sem] max2_int min2_int max_two min_two max_three min_three max_four min_four   -- for this text's walks alone
def spec_l01DrawBytes.l0 : Nat → List Int → Int → List Int → Int → Int → Option (List Int × Int × Int)
 | 0, _, _, _, _, _ => none
 | k + 1, x5, x6, x1000, x1001, x1002 => if x6 > 0 then ((spec_l01Cur_pick.f x1000 x1001 x1002 256).bind fun bt1229 => ((spec_l01Cur_pick.f x1000 bt1229.2.1 bt1229.2.2 256).bind fun bt1232 => ((some (([(bt1229.1) % 256, 255, 0, 1, (bt1232.1) % 256] : List Int) : List Int)).bind fun y1235 => ((spec_l01Cur_pick.f x1000 bt1232.2.1 bt1232.2.2 5).bind fun bt1238 => (if 0 ≤ bt1238.1 then (if bt1238.1 < (y1235.length : Int) then (if x5.length < 140737488355328 then (spec_l01DrawBytes.l0 k (x5 ++ [rd y1235 bt1238.1]) (wrap64 (x6 - 1)) x1000 bt1238.2.1 bt1238.2.2) else (none)) else (none)) else (none)))))) else (some (x5, x1001, x1002))
def spec_l01DrawBytes.f (k : Nat) (s0_0 : List Int) (s0_1 : Int) (s0_2 : Int) (a1 : Int) : Option (List Int × Int × Int) := (spec_l01Cur_size.f s0_0 s0_1 s0_2 a1).bind fun bt1226 => (spec_l01DrawBytes.l0 k (([] : List Int)) bt1226.1 s0_0 bt1226.2.1 bt1226.2.2)
set_option maxHeartbeats 8000000 in
set_option maxRecDepth 100000 in
theorem spec_l01DrawBytes.calls (k : Nat) (g : Nat) (s0_0 : List Int) (s0_1 : Int) (s0_2 : Int) (a1 : Int) (r1 : List Int) (r2 : Int) (r3 : Int) (w0 w : World) (hI : IsS150 w0 w g s0_0 s0_1 s0_2) (hB : Below w0.heap.size w0 w) (h : spec_l01DrawBytes.f k s0_0 s0_1 s0_2 a1 = some (r1, r2, r3)) :
  Calls Try.prog 172 #[.pointer (some ⟨g, 0, none⟩), .int .i64 a1] w fun e w' => ∃ v0_ : Value, e = .returned (v0_) ∧ Kd.R (Kd.int .u8) 5 w' w.heap.size (fun _ => True) v0_ r1 ∧ IsS150 w0 w' g s0_0 r2 r3 ∧ Below w0.heap.size w0 w' ∧ KeepBut w w' g none := by
 have HI0 := zA hI
 have HK := zA (KeepBut.refl w g none)
 have HL := zA hB.size
 clear hI
 have HW0 := zA hB.size
 have HB := zA hB
 clear hB
 have H : ((spec_l01Cur_size.f s0_0 s0_1 s0_2 a1).bind fun bt1226 => (spec_l01DrawBytes.l0 k (([] : List Int)) bt1226.1 s0_0 bt1226.2.1 bt1226.2.2)) = some (r1, r2, r3) := h
 clear h
 obtain ⟨y1223, hy1223⟩ : ∃ y_ : List Int, y_ = (([] : List Int)) := ⟨_, rfl⟩
 replace H : ((spec_l01Cur_size.f s0_0 s0_1 s0_2 a1).bind fun bt1226 => (spec_l01DrawBytes.l0 k y1223 bt1226.1 s0_0 bt1226.2.1 bt1226.2.2)) = some (r1, r2, r3) := by first | (rw [hy1223]; with_reducible exact H) | (have H2_ := (zS _ _).symm.trans H; rw [hy1223]; with_reducible exact H2_) | (have H2_ := (zS _ _).symm.trans H; with_reducible exact H2_) | with_reducible exact H | (rw [hy1223]; exact H) | exact H
 have Ny1223 := zA hy1223
 clear hy1223
 replace H := Option.bind_eq_some_iff.mp H
 obtain ⟨⟨t1226, t1227, t1228⟩, A30, H⟩ := H
 replace H : (spec_l01DrawBytes.l0 k y1223 t1226 s0_0 t1227 t1228) = some (r1, r2, r3) := H
 have A3 := zA A30
 clear A30
 have H' := zA H
 clear H
 go_enter Try.func172, Try.ntmps172
 go_wp2_with (first | ((with_reducible refine gate_dst (N := 7) rfl ?_); refine Kd.R_lit (Kd.int .u8) _ 5 ?hg (N := 7) ?hd (xs := ([] : List Int)) (inner := []) (ok := fun _ => True) (okp := fun _ => True) ?hr ?hp (fun _ hk => hk) trivial (Below.refl _ _) (Nat.le_refl _) (by simp) ?_; (case hd => rfl); (case hg => rfl); (case hr => first | (go_simp; done) | (go_simp; rfl)); (case hp => exact (Reps.none _ _)); intro v1224 w4 ho5 hb hg_ hnew_; clear hg_ hnew_; (first | rw [← Ny1223.out] at ho5 | (simp only [Int.reduceToNat] at ho5; rw [← Ny1223.out] at ho5)); have n0_ := zA (Kd.R_lower ho5 (keep_size (w := w) (g := g) (row := none) (by repeat (first | (with_reducible first | exact HK.out | apply zZ | apply yA | apply yB | apply yC) | exact HK.out)))); have n1_ := zA (IsS150.below (by repeat (first | (with_reducible first | exact HI0.out | apply IsS150.alloc | apply IsS150.drewN | apply IsS150.drew | apply IsS150.set_1 | apply IsS150.set_2) | exact HI0.out)) hb); have n2_ := zA (KeepBut.trans (by repeat (first | (with_reducible first | exact HK.out | apply zZ | apply yA | apply yB | apply yC) | exact HK.out)) (KeepBut.of_below hb g none) (.inl rfl)); have n3_ := zA (below_step (by repeat (first | (with_reducible first | exact HB.out | apply zC | apply zB | apply zF | refine zE ?_ (IsS150.ge HI0.out)) | exact HB.out)) hb); clear HI0; clear HK; clear HB; have HO1225 := n0_; have HI0 := n1_; have HK := n2_; have HB := n3_; clear n0_ n1_ n2_ n3_; clear hb ho5) | ((with_reducible refine gate_callee (f := 153) rfl ?_); refine goesL_ (some 10) rfl rfl Try.func153 (by kernel_rfl) rfl #[.pointer (some ⟨g, 0, none⟩), .int .i64 a1] rfl (by (try simp only [zU, zV, zW]); first | done | rfl | (simp only [zR, zQ]; rfl)) ?_; (with_reducible refine (spec_l01Cur_size.calls g s0_0 s0_1 s0_2 a1 t1226 t1227 t1228 w0 _ ?side1 ?side2 A3.out).mono ?_); (case side1 => repeat (first | (with_reducible first | exact HI0.out | apply IsS150.alloc | apply IsS150.drewN | apply IsS150.drew | apply IsS150.set_1 | apply IsS150.set_2) | exact HI0.out)); (case side2 => repeat (first | (with_reducible first | exact HB.out | apply zC | apply zB | apply zF | refine zE ?_ (IsS150.ge HI0.out)) | exact HB.out)); rintro e w6 ⟨rfl, hi, hb, hk⟩; refine ⟨_, rfl, ?_⟩; have n0_ := zA (zP (Kd.R_keep (IsS150.apart (show IsS150 w0 _ g s0_0 s0_1 s0_2 from by repeat (first | (with_reducible first | exact HI0.out | apply IsS150.alloc | apply IsS150.drewN | apply IsS150.drew | apply IsS150.set_1 | apply IsS150.set_2) | exact HI0.out)) (by (with_reducible repeat (first | apply zN | apply zM | apply zO)); exact HO1225.out) (by decide)) hk (fun _ h => h.2)) (fun _ h => h.1)); have n1_ := zA (KeepBut.trans (by repeat (first | (with_reducible first | exact HK.out | apply zZ | apply yA | apply yB | apply yC) | exact HK.out)) hk (.inl rfl)); have n2_ := zA (hb); have n3_ := zA (hi); clear HO1225; clear HK; clear HB; clear HI0; have HO1225 := n0_; have HK := n1_; have HB := n2_; have HI0 := n3_; clear n0_ n1_ n2_ n3_; (try clear hb); (try clear hb2); (try clear hk); (try clear hi)))
 go_loopg [5, 6] k (fun kq v5 v6 w' => ∃ (x5_1 : List Int) (x6_1 : Int) (x1001_1 : Int) (x1002_1 : Int), v6 = .int .i64 x6_1 ∧ Aside0 (spec_l01DrawBytes.l0 kq x5_1 x6_1 s0_0 x1001_1 x1002_1 = some (r1, r2, r3)) ∧ Aside0 (kq ≤ k) ∧ Aside0 (Kd.R (Kd.int .u8) 5 w' w.heap.size (fun _ => True) v5 x5_1) ∧ Aside0 (IsS150 w0 w' g s0_0 x1001_1 x1002_1) ∧ Aside0 (KeepBut w w' g none) ∧ Aside0 (Below w0.heap.size w0 w'))
 case atStart => exact ⟨(y1223), (t1226), (t1227), (t1228), (by first | rfl | (simp; done) | (simp [*]; done)), H', ⟨Nat.le_refl _⟩, ⟨by (with_reducible repeat (first | apply zN | apply zM | apply zO)); exact HO1225.out⟩, ⟨by repeat (first | (with_reducible first | exact HI0.out | apply IsS150.alloc | apply IsS150.drewN | apply IsS150.drew | apply IsS150.set_1 | apply IsS150.set_2) | exact HI0.out)⟩, ⟨by repeat (first | (with_reducible first | exact HK.out | apply zZ | apply yA | apply yB | apply yC) | exact HK.out)⟩, ⟨by repeat (first | (with_reducible first | exact HB.out | apply zC | apply zB | apply zF | refine zE ?_ (IsS150.ge HI0.out)) | exact HB.out)⟩⟩
 case round =>
  clear H'
  try clear c1
  try clear p2
  obtain ⟨x5_1, x6_1, x1001_1, x1002_1, rfl, HA, HK1, HO_5, HI0, HK, HB⟩ := hrel
  cases gk with
  | zero => exact absurd HA.out (by simp [spec_l01DrawBytes.l0])
  | succ k1 =>
   have H := HA.out
   clear HA
   simp only [spec_l01DrawBytes.l0] at H
   by_cases c7 : x6_1 > 0
   ·rw [if_pos c7] at H
    have c7b0 : decide (0 < x6_1) = true := zT c7
    clear c7
    replace H := Option.bind_eq_some_iff.mp H
    obtain ⟨⟨t1229, t1230, t1231⟩, A80, H⟩ := H
    replace H : ((spec_l01Cur_pick.f s0_0 t1230 t1231 256).bind fun bt1232 => ((some (([(t1229) % 256, 255, 0, 1, (bt1232.1) % 256] : List Int) : List Int)).bind fun y1235 => ((spec_l01Cur_pick.f s0_0 bt1232.2.1 bt1232.2.2 5).bind fun bt1238 => (if 0 ≤ bt1238.1 then (if bt1238.1 < (y1235.length : Int) then (if x5_1.length < 140737488355328 then (spec_l01DrawBytes.l0 k1 (x5_1 ++ [rd y1235 bt1238.1]) (wrap64 (x6_1 - 1)) s0_0 bt1238.2.1 bt1238.2.2) else (none)) else (none)) else (none))))) = some (r1, r2, r3) := H
    have A8 := zA A80
    clear A80
    replace H := Option.bind_eq_some_iff.mp H
    obtain ⟨⟨t1232, t1233, t1234⟩, A90, H⟩ := H
    replace H : ((some (([(t1229) % 256, 255, 0, 1, (t1232) % 256] : List Int) : List Int)).bind fun y1235 => ((spec_l01Cur_pick.f s0_0 t1233 t1234 5).bind fun bt1238 => (if 0 ≤ bt1238.1 then (if bt1238.1 < (y1235.length : Int) then (if x5_1.length < 140737488355328 then (spec_l01DrawBytes.l0 k1 (x5_1 ++ [rd y1235 bt1238.1]) (wrap64 (x6_1 - 1)) s0_0 bt1238.2.1 bt1238.2.2) else (none)) else (none)) else (none)))) = some (r1, r2, r3) := H
    have A9 := zA A90
    clear A90
    obtain ⟨y1235, hy1235⟩ : ∃ y_ : List Int, y_ = (([(t1229) % 256, 255, 0, 1, (t1232) % 256] : List Int)) := ⟨_, rfl⟩
    replace H : ((spec_l01Cur_pick.f s0_0 t1233 t1234 5).bind fun bt1238 => (if 0 ≤ bt1238.1 then (if bt1238.1 < (y1235.length : Int) then (if x5_1.length < 140737488355328 then (spec_l01DrawBytes.l0 k1 (x5_1 ++ [rd y1235 bt1238.1]) (wrap64 (x6_1 - 1)) s0_0 bt1238.2.1 bt1238.2.2) else (none)) else (none)) else (none))) = some (r1, r2, r3) := by first | (rw [hy1235]; with_reducible exact H) | (have H2_ := (zS _ _).symm.trans H; rw [hy1235]; with_reducible exact H2_) | (have H2_ := (zS _ _).symm.trans H; with_reducible exact H2_) | with_reducible exact H | (rw [hy1235]; exact H) | exact H
    have Ny1235 := zA hy1235
    clear hy1235
    replace H := Option.bind_eq_some_iff.mp H
    obtain ⟨⟨t1238, t1239, t1240⟩, A100, H⟩ := H
    replace H : (if 0 ≤ t1238 then (if t1238 < (y1235.length : Int) then (if x5_1.length < 140737488355328 then (spec_l01DrawBytes.l0 k1 (x5_1 ++ [rd y1235 t1238]) (wrap64 (x6_1 - 1)) s0_0 t1239 t1240) else (none)) else (none)) else (none)) = some (r1, r2, r3) := H
    have A10 := zA A100
    clear A100
    by_cases c11 : 0 ≤ t1238
    ·rw [if_pos c11] at H
     have c11b0 : decide (0 ≤ t1238) = true := zT c11
     clear c11
     by_cases c12 : t1238 < (y1235.length : Int)
     ·rw [if_pos c12] at H
      have c12b0 : decide (t1238 < (y1235.length : Int)) = true := zT c12
      clear c12
      by_cases c13 : x5_1.length < 140737488355328
      ·rw [if_pos c13] at H
       have LMc13 := zA c13
       clear c13
       obtain ⟨y1242, hy1242⟩ : ∃ y_ : List Int, y_ = (x5_1 ++ [rd y1235 t1238]) := ⟨_, rfl⟩
       replace H : (spec_l01DrawBytes.l0 k1 y1242 (wrap64 (x6_1 - 1)) s0_0 t1239 t1240) = some (r1, r2, r3) := by first | (rw [hy1242]; with_reducible exact H) | (have H2_ := (zS _ _).symm.trans H; rw [hy1242]; with_reducible exact H2_) | (have H2_ := (zS _ _).symm.trans H; with_reducible exact H2_) | with_reducible exact H | (rw [hy1242]; exact H) | exact H
       have Ny1242 := zA hy1242
       clear hy1242
       have H' := zA H
       clear H
       go_wp2_with (first | ((with_reducible refine gate_callee (f := 85) rfl ?_); refine goesL_ (some 17) rfl rfl Try.func85 (by kernel_rfl) rfl #[.pointer (some ⟨g, 0, none⟩), .int .i64 256] rfl (by (try simp only [zU, zV, zW]); first | done | rfl | (simp only [zR, zQ]; rfl)) ?_; (with_reducible refine (spec_l01Cur_pick.calls g s0_0 x1001_1 x1002_1 256 t1229 t1230 t1231 w0 _ ?side1 ?side2 A8.out).mono ?_); (case side1 => repeat (first | (with_reducible first | exact HI0.out | apply IsS150.alloc | apply IsS150.drewN | apply IsS150.drew | apply IsS150.set_1 | apply IsS150.set_2) | exact HI0.out)); (case side2 => repeat (first | (with_reducible first | exact HB.out | apply zC | apply zB | apply zF | refine zE ?_ (IsS150.ge HI0.out)) | exact HB.out)); rintro e w14 ⟨rfl, hi, hb, hk⟩; refine ⟨_, rfl, ?_⟩; have n0_ := zA (zP (Kd.R_keep (IsS150.apart (show IsS150 w0 _ g s0_0 x1001_1 x1002_1 from by repeat (first | (with_reducible first | exact HI0.out | apply IsS150.alloc | apply IsS150.drewN | apply IsS150.drew | apply IsS150.set_1 | apply IsS150.set_2) | exact HI0.out)) (by (with_reducible repeat (first | apply zN | apply zM | apply zO)); exact HO_5.out) (by decide)) hk (fun _ h => h.2)) (fun _ h => h.1)); have n1_ := zA (KeepBut.trans (by repeat (first | (with_reducible first | exact HK.out | apply zZ | apply yA | apply yB | apply yC) | exact HK.out)) hk (.inl rfl)); have n2_ := zA (hb); have n3_ := zA (hi); clear HO_5; clear HK; clear HB; clear HI0; have HO_5 := n0_; have HK := n1_; have HB := n2_; have HI0 := n3_; clear n0_ n1_ n2_ n3_; (try clear hb); (try clear hb2); (try clear hk); (try clear hi)) | ((with_reducible refine gate_callee (f := 85) rfl ?_); refine goesL_ (some 20) rfl rfl Try.func85 (by kernel_rfl) rfl #[.pointer (some ⟨g, 0, none⟩), .int .i64 256] rfl (by (try simp only [zU, zV, zW]); first | done | rfl | (simp only [zR, zQ]; rfl)) ?_; (with_reducible refine (spec_l01Cur_pick.calls g s0_0 t1230 t1231 256 t1232 t1233 t1234 w0 _ ?side1 ?side2 A9.out).mono ?_); (case side1 => repeat (first | (with_reducible first | exact HI0.out | apply IsS150.alloc | apply IsS150.drewN | apply IsS150.drew | apply IsS150.set_1 | apply IsS150.set_2) | exact HI0.out)); (case side2 => repeat (first | (with_reducible first | exact HB.out | apply zC | apply zB | apply zF | refine zE ?_ (IsS150.ge HI0.out)) | exact HB.out)); rintro e w15 ⟨rfl, hi, hb, hk⟩; refine ⟨_, rfl, ?_⟩; have n0_ := zA (zP (Kd.R_keep (IsS150.apart (show IsS150 w0 _ g s0_0 t1230 t1231 from by repeat (first | (with_reducible first | exact HI0.out | apply IsS150.alloc | apply IsS150.drewN | apply IsS150.drew | apply IsS150.set_1 | apply IsS150.set_2) | exact HI0.out)) (by (with_reducible repeat (first | apply zN | apply zM | apply zO)); exact HO_5.out) (by decide)) hk (fun _ h => h.2)) (fun _ h => h.1)); have n1_ := zA (KeepBut.trans (by repeat (first | (with_reducible first | exact HK.out | apply zZ | apply yA | apply yB | apply yC) | exact HK.out)) hk (.inl rfl)); have n2_ := zA (hb); have n3_ := zA (hi); clear HO_5; clear HK; clear HB; clear HI0; have HO_5 := n0_; have HK := n1_; have HB := n2_; have HI0 := n3_; clear n0_ n1_ n2_ n3_; (try clear hb); (try clear hb2); (try clear hk); (try clear hi)) | ((with_reducible refine gate_dst (N := 22) rfl ?_); refine Kd.R_lit (Kd.int .u8) _ 5 ?hg (N := 22) ?hd (xs := ([(t1229) % 256, 255, 0, 1, (t1232) % 256] : List Int)) (inner := [.int .u8 ((t1229) % 256), .int .u8 255, .int .u8 0, .int .u8 1, .int .u8 ((t1232) % 256)]) (ok := fun _ => True) (okp := fun _ => True) ?hr ?hp (fun _ hk => hk) trivial (Below.refl _ _) (Nat.le_refl _) (by simp) ?_; (case hd => rfl); (case hg => rfl); (case hr => first | (go_simp; done) | (go_simp; rfl)); (case hp => exact (Reps.one (show Kd.M (Kd.int .u8) _ _ _ ((t1229) % 256) [.int .u8 ((t1229) % 256)] from rfl) (Reps.one (show Kd.M (Kd.int .u8) _ _ _ 255 [.int .u8 255] from rfl) (Reps.one (show Kd.M (Kd.int .u8) _ _ _ 0 [.int .u8 0] from rfl) (Reps.one (show Kd.M (Kd.int .u8) _ _ _ 1 [.int .u8 1] from rfl) (Reps.one (show Kd.M (Kd.int .u8) _ _ _ ((t1232) % 256) [.int .u8 ((t1232) % 256)] from rfl) (Reps.none _ _))))))); intro v1236 w16 ho17 hb hg_ hnew_; clear hg_ hnew_; (first | rw [← Ny1235.out] at ho17 | (simp only [Int.reduceToNat] at ho17; rw [← Ny1235.out] at ho17)); have n0_ := zA (Kd.R_elder' (by (with_reducible repeat (first | apply zN | apply zM | apply zO)); exact HO_5.out) (Kd.R_base ho17) hb); have n1_ := zA (Kd.R_lower (Kd.R_new' ho17 (Kd.R_lt (by (with_reducible repeat (first | apply zN | apply zM | apply zO)); exact HO_5.out))) (keep_size (w := w) (g := g) (row := none) (by repeat (first | (with_reducible first | exact HK.out | apply zZ | apply yA | apply yB | apply yC) | exact HK.out)))); have n2_ := zA (IsS150.below (by repeat (first | (with_reducible first | exact HI0.out | apply IsS150.alloc | apply IsS150.drewN | apply IsS150.drew | apply IsS150.set_1 | apply IsS150.set_2) | exact HI0.out)) hb); have n3_ := zA (KeepBut.trans (by repeat (first | (with_reducible first | exact HK.out | apply zZ | apply yA | apply yB | apply yC) | exact HK.out)) (KeepBut.of_below hb g none) (.inl rfl)); have n4_ := zA (below_step (by repeat (first | (with_reducible first | exact HB.out | apply zC | apply zB | apply zF | refine zE ?_ (IsS150.ge HI0.out)) | exact HB.out)) hb); clear HO_5; clear HI0; clear HK; clear HB; have HO_5 := n0_; have HO1237 := n1_; have HI0 := n2_; have HK := n3_; have HB := n4_; clear n0_ n1_ n2_ n3_ n4_; clear hb ho17) | ((with_reducible refine gate_callee (f := 85) rfl ?_); refine goesL_ (some 24) rfl rfl Try.func85 (by kernel_rfl) rfl #[.pointer (some ⟨g, 0, none⟩), .int .i64 5] rfl (by (try simp only [zU, zV, zW]); first | done | rfl | (simp only [zR, zQ]; rfl)) ?_; (with_reducible refine (spec_l01Cur_pick.calls g s0_0 t1233 t1234 5 t1238 t1239 t1240 w0 _ ?side1 ?side2 A10.out).mono ?_); (case side1 => repeat (first | (with_reducible first | exact HI0.out | apply IsS150.alloc | apply IsS150.drewN | apply IsS150.drew | apply IsS150.set_1 | apply IsS150.set_2) | exact HI0.out)); (case side2 => repeat (first | (with_reducible first | exact HB.out | apply zC | apply zB | apply zF | refine zE ?_ (IsS150.ge HI0.out)) | exact HB.out)); rintro e w18 ⟨rfl, hi, hb, hk⟩; refine ⟨_, rfl, ?_⟩; have n0_ := zA (zP (Kd.R_keep (IsS150.apart (show IsS150 w0 _ g s0_0 t1233 t1234 from by repeat (first | (with_reducible first | exact HI0.out | apply IsS150.alloc | apply IsS150.drewN | apply IsS150.drew | apply IsS150.set_1 | apply IsS150.set_2) | exact HI0.out)) (by (with_reducible repeat (first | apply zN | apply zM | apply zO)); exact HO_5.out) (by decide)) hk (fun _ h => h.2)) (fun _ h => h.1)); have n1_ := zA (zP (Kd.R_keep (IsS150.apart (show IsS150 w0 _ g s0_0 t1233 t1234 from by repeat (first | (with_reducible first | exact HI0.out | apply IsS150.alloc | apply IsS150.drewN | apply IsS150.drew | apply IsS150.set_1 | apply IsS150.set_2) | exact HI0.out)) (by (with_reducible repeat (first | apply zN | apply zM | apply zO)); exact HO1237.out) (by decide)) hk (fun _ h => h.2)) (fun _ h => h.1)); have n2_ := zA (KeepBut.trans (by repeat (first | (with_reducible first | exact HK.out | apply zZ | apply yA | apply yB | apply yC) | exact HK.out)) hk (.inl rfl)); have n3_ := zA (hb); have n4_ := zA (hi); clear HO_5; clear HO1237; clear HK; clear HB; clear HI0; have HO_5 := n0_; have HO1237 := n1_; have HK := n2_; have HB := n3_; have HI0 := n4_; clear n0_ n1_ n2_ n3_ n4_; (try clear hb); (try clear hb2); (try clear hk); (try clear hi); obtain ⟨Ao19, co19, eo19⟩ := Kd.R_slice HO1237.out; subst eo19; have p1241 : 0 ≤ (t1238 : Int) := zI (by first | (with_reducible assumption) | assumption); have q1241 : t1238 < (y1235.length : Int) := zI (by first | (with_reducible assumption) | assumption); obtain ⟨ad1241, e1241, hx1241_0⟩ := Kd.at_int (yK HO1237.out).2.2 t1238 p1241 q1241; cases e1241; replace p1241 := eq_true p1241; replace q1241 := eq_true q1241) | ((with_reducible refine gate_builtin (b := .append) (xs := #[.tmp 15, .tmp 27]) rfl ?_); at_builtin; refine Kd.R_append (Kd.int .u8) w.heap.size rfl (.tmp 15) (.tmp 27) 23 5 (.int .u8 0) 1 rfl Try.underlying23 info5 rfl (by decide) (by omega) u5 x5_1 (rd y1235 t1238) [.int .u8 (rd y1235 t1238)] (fun k_ => some k_ ≠ (.slice (some ad1241) y1235.length co19 : Value).ownBlock) (fun _ => False) rfl rfl ?aP (fun _ hk => hk.elim) ?aF ?aO (Below.refl _ _) ?aS ?aL ?_; (case aP => exact rfl); (case aF => exact (fun k_ hk => Kd.fresh' (Kd.R_lt (by (with_reducible repeat (first | apply zN | apply zM | apply zO)); exact HO1237.out)) k_ hk)); (case aO => exact (by (with_reducible repeat (first | apply zN | apply zM | apply zO)); exact zP HO_5.out (fun _ hk => hk.2))); (case aS => exact (keep_size (w := w) (g := g) (row := none) (by repeat (first | (with_reducible first | exact HK.out | apply zZ | apply yA | apply yB | apply yC) | exact HK.out)))); (case aL => have := LMc13.out; omega); intro v1243 w20 ho hb hg hat; rw [← Ny1242.out] at ho; have n0_ := zA (IsS150.grown (by repeat (first | (with_reducible first | exact HI0.out | apply IsS150.alloc | apply IsS150.drewN | apply IsS150.drew | apply IsS150.set_1 | apply IsS150.set_2) | exact HI0.out)) hg (IsS150.own_ne HI0.out HO_5.out (by decide))); have n1_ := zA (Kd.R_after (ok := (fun _ => True)) (by (with_reducible repeat (first | apply zN | apply zM | apply zO)); exact HO1237.out) hg hat); have n2_ := zA (below_weaken (by repeat (first | (with_reducible first | exact HB.out | apply zC | apply zB | apply zF | refine zE ?_ (IsS150.ge HI0.out)) | exact HB.out)) HL.out hb); have n3_ := zA (KeepBut.trans (by repeat (first | (with_reducible first | exact HK.out | apply zZ | apply yA | apply yB | apply yC) | exact HK.out)) (KeepBut.of_grown hg g) (Kd.R_base2 HO_5.out)); have n4_ := zA (ho); clear HI0; clear HO1237; clear HB; clear HK; clear HO_5; have HI0 := n0_; have HO1237 := n1_; have HB := n2_; have HK := n3_; have HO1244 := n4_; clear n0_ n1_ n2_ n3_ n4_; clear ho hb hg hat))
       go_roundg k1
       case measure => have := HK1.out; omega
       case rel => exact ⟨(y1242), (wrap64 (x6_1 - 1)), (t1239), (t1240), (by first | rfl | (simp; done) | (simp [*]; done)), H', ⟨by have := HK1.out; omega⟩, ⟨by (with_reducible repeat (first | apply zN | apply zM | apply zO)); exact zP HO1244.out (fun _ hk => trivial)⟩, ⟨by repeat (first | (with_reducible first | exact HI0.out | apply IsS150.alloc | apply IsS150.drewN | apply IsS150.drew | apply IsS150.set_1 | apply IsS150.set_2) | exact HI0.out)⟩, ⟨by repeat (first | (with_reducible first | exact HK.out | apply zZ | apply yA | apply yB | apply yC) | exact HK.out)⟩, ⟨by repeat (first | (with_reducible first | exact HB.out | apply zC | apply zB | apply zF | refine zE ?_ (IsS150.ge HI0.out)) | exact HB.out)⟩⟩
      ·rw [if_neg c13] at H
       exact absurd H (by simp)
     ·rw [if_neg c12] at H
      exact absurd H (by simp)
    ·rw [if_neg c11] at H
     exact absurd H (by simp)
   ·rw [if_neg c7] at H
    have c7b0 : decide (0 < x6_1) = false := decide_eq_false c7
    clear c7
    simp only [Option.some.injEq, Prod.mk.injEq] at H
    obtain ⟨rfl, rfl, rfl⟩ := H
    go_wp2
    go_ret
    exact ⟨_, by first | rfl | (simp [errW_none, errW_some] <;> rfl) | (simp [*, errW_none, errW_some] <;> rfl), by (with_reducible repeat (first | apply zN | apply zM | apply zO)); exact HO_5.out, by repeat (first | (with_reducible first | exact HI0.out | apply IsS150.alloc | apply IsS150.drewN | apply IsS150.drew | apply IsS150.set_1 | apply IsS150.set_2) | exact HI0.out), by repeat (first | (with_reducible first | exact HB.out | apply zC | apply zB | apply zF | refine zE ?_ (IsS150.ge HI0.out)) | exact HB.out), by repeat (first | (with_reducible first | exact HK.out | apply zZ | apply yA | apply yB | apply yC) | exact HK.out)⟩
def BytesL (x : List Int) : Prop := ∀ y ∈ x, 0 ≤ y ∧ y ≤ 255
theorem BytesL.nil : BytesL [] := fun y hy => by simp at hy
theorem BytesL.app {a b : List Int} (ha : BytesL a) (hb : BytesL b) : BytesL (a ++ b) := by
 intro y hy
 rcases List.mem_append.1 hy with h | h
 ·exact ha y h
 ·exact hb y h
theorem BytesL.one {v : Int} (h : 0 ≤ v ∧ v ≤ 255) : BytesL [v] := fun y hy => by rw [List.mem_singleton.1 hy]; exact h
theorem BytesL.rd {a : List Int} (h : BytesL a) (i : Int) : 0 ≤ rd a i ∧ rd a i ≤ 255 := by
 unfold Go.Proofs.YtcjjmfpkhhdmlaaW.PrintWords.rd
 rw [List.getD_eq_getElem?_getD]
 cases hg : a[i.toNat]? with
 | none => simp
 | some y => simp only [Option.getD_some]; exact h y (List.mem_of_getElem? hg)
theorem spec_l01DrawBytes.l0_ev (c : List Int) : ∀ (j m : Nat) (a s : Int) (x : List Int), CurAt c m a s → m + 6 * j ≤ 900000000 → BytesL x → x.length + j ≤ 1000 → EvP (fun k => spec_l01DrawBytes.l0 k x (j : Int) c a s) (fun r => CurAt c (m + 6 * j) r.2.1 r.2.2 ∧ r.1.length ≤ x.length + j ∧ BytesL r.1) := by
 intro j
 induction j with
 | zero =>
  intro m a s x hc _ hx _
  exact EvP.step (fun _ => by rw [spec_l01DrawBytes.l0]) (EvP.ng (by omega) (EvP.now ⟨show CurAt c (m + 6 * 0) a s from hc.up (by omega), by simp, hx⟩))
 | succ j ih =>
  intro m a s x hc hm hx hl
  refine EvP.step (fun _ => by rw [spec_l01DrawBytes.l0]) (EvP.ip (by omega) ?_)
  refine hc.pick (by omega) 256 (fun v1 a1 s1 h1 h1' hc1 => ?_)
  refine hc1.pick (by omega) 256 (fun v2 a2 s2 h2 h2' hc2 => ?_)
  refine EvP.some ?_
  refine hc2.pick (by omega) 5 (fun v3 a3 s3 h3 h3' hc3 => ?_)
  refine EvP.ip h3 (EvP.ip (show v3 < 5 by omega) (EvP.ip (by omega) ?_))
  rw [show wrap64 (((j + 1 : Nat) : Int) - 1) = (j : Int) by rw [wrap_in _ (by omega) (by omega)]; omega]
  have hb : BytesL [v1 % 256, 255, 0, 1, v2 % 256] := by
   intro y hy
   simp only [List.mem_cons, List.not_mem_nil, or_false] at hy
   rcases hy with rfl | rfl | rfl | rfl | rfl <;> omega
  refine (ih (m + 2 + 2 + 2) a3 s3 _ hc3 (by omega) (hx.app (BytesL.one (hb.rd v3))) (by simp; omega)).mono (fun r hr => ?_)
  obtain ⟨r1, r2, r3⟩ := hr
  exact ⟨r1.up (by omega), by simp at r2; omega, r3⟩
theorem spec_l01DrawBytes.ev (c : List Int) (m : Nat) (a s : Int) (hc : CurAt c m a s) (hm : m ≤ 800000000) : EvP (fun k => spec_l01DrawBytes.f k c a s 9) (fun r => CurAt c (m + 60) r.2.1 r.2.2 ∧ r.1.length ≤ 9 ∧ BytesL r.1) := by
 unfold spec_l01DrawBytes.f
 refine hc.size (by omega) 9 (by omega) (by omega) (fun n a1 s1 h0 h1 hc1 => ?_)
 obtain ⟨j, rfl⟩ : ∃ j : Nat, n = j := ⟨n.toNat, by omega⟩
 refine (spec_l01DrawBytes.l0_ev c j (m + 2) a1 s1 [] hc1 (by omega) BytesL.nil (by simp; omega)).mono (fun r hr => ?_)
 obtain ⟨r1, r2, r3⟩ := hr
 exact ⟨r1.up (by omega), by simp at r2; omega, r3⟩
end Go.Proofs.Ytcjjmfpkhhdmlaa.G


namespace Go.Proofs.Ytcjjmfpkhhdmlaa.G
open Go.RowKit Go.Proofs.YtcjjmfpkhhdmlaaW.PrintWords Go.Proofs.YtcjjmfpkhhdmlaaW.PrintLast Go.Proofs.YtcjjmfpkhhdmlaaW.PrintMore
attribute [local go_sem] max2_int min2_int max_two min_two max_three min_three max_four min_four   -- for this text's walks alone
def spec_Stuff.l0 : Nat → List Int → List Int → Int → Option (List Int)
 | 0, _, _, _ => none
 | k + 1, x0, x3, x4 => if x4 < (x0.length : Int) then (if 0 ≤ x4 then (if x3.length < 140737488355328 then ((some (x3 ++ [rd x0 x4] : List Int)).bind fun y1167 => (if (rd x0 x4) = 255 then (if y1167.length < 140737488355328 then (spec_Stuff.l0 k x0 (y1167 ++ [0]) (wrap64 (x4 + 1))) else (none)) else (spec_Stuff.l0 k x0 y1167 (wrap64 (x4 + 1))))) else (none)) else (none)) else (some x3)
def spec_Stuff.f (k : Nat) (l0 : List Int) : Option (List Int) := (some (([] : List Int) : List Int)).bind fun y1163 => (if (l0.length : Int) > 60000 then (some y1163) else (spec_Stuff.l0 k l0 y1163 0))
set_option maxHeartbeats 8000000 in
set_option maxRecDepth 100000 in
theorem spec_Stuff.calls (k : Nat) (A0 : Option Addr) (c0 : Nat) (l0 : List Int) (r : List Int) (w : World) (hr0 : Kd.C (Kd.int .u8) w A0 l0.length l0) (hc0 : l0.length ≤ c0) (h : spec_Stuff.f k l0 = some r) :
  Calls Try.prog 171 #[.slice A0 l0.length c0] w fun e w' => ∃ v0_ : Value, e = .returned (v0_) ∧ Kd.R (Kd.int .u8) 5 w' w.heap.size (fun _ => True) v0_ r ∧ Below w.heap.size w w' := by
 have HR0 := zA hr0
 have HC0 := zA hc0
 clear hr0 hc0
 have HB := zA (Below.refl w.heap.size w)
 have H : ((some (([] : List Int) : List Int)).bind fun y1163 => (if (l0.length : Int) > 60000 then (some y1163) else (spec_Stuff.l0 k l0 y1163 0))) = some r := h
 clear h
 obtain ⟨y1163, hy1163⟩ : ∃ y_ : List Int, y_ = (([] : List Int)) := ⟨_, rfl⟩
 replace H : (if (l0.length : Int) > 60000 then (some y1163) else (spec_Stuff.l0 k l0 y1163 0)) = some r := by first | (rw [hy1163]; with_reducible exact H) | (have H2_ := (zS _ _).symm.trans H; rw [hy1163]; with_reducible exact H2_) | (have H2_ := (zS _ _).symm.trans H; with_reducible exact H2_) | with_reducible exact H | (rw [hy1163]; exact H) | exact H
 have Ny1163 := zA hy1163
 clear hy1163
 by_cases c2 : (l0.length : Int) > 60000
 ·rw [if_pos c2] at H
  have c2b0 : decide (60000 < (l0.length : Int)) = true := zT c2
  have c2b1 : decide (60000 < l0.length) = true := zT (by omega)
  clear c2
  obtain rfl := Option.some.inj H
  go_enter Try.func171, Try.ntmps171
  go_wp2_with (first | ((with_reducible refine gate_dst (N := 5) rfl ?_); refine Kd.R_lit (Kd.int .u8) _ 5 ?hg (N := 5) ?hd (xs := ([] : List Int)) (inner := []) (ok := fun _ => True) (okp := fun _ => True) ?hr ?hp (fun _ hk => hk) trivial (Below.refl _ _) (Nat.le_refl _) (by simp) ?_; (case hd => rfl); (case hg => rfl); (case hr => first | (go_simp; done) | (go_simp; rfl)); (case hp => exact (Reps.none _ _)); intro v1164 w3 ho4 hb hg_ hnew_; clear hg_ hnew_; (first | rw [← Ny1163.out] at ho4 | (simp only [Int.reduceToNat] at ho4; rw [← Ny1163.out] at ho4)); have n0_ := zA (Kd.R_lower ho4 (zL (by repeat (first | (with_reducible first | exact HB.out | apply zC | apply zB | apply zF) | exact HB.out)))); have n1_ := zA (below_step (by repeat (first | (with_reducible first | exact HB.out | apply zC | apply zB | apply zF) | exact HB.out)) hb); clear HB; have HO1165 := n0_; have HB := n1_; clear n0_ n1_; clear hb ho4))
  go_ret
  exact ⟨_, by first | rfl | (simp [errW_none, errW_some] <;> rfl) | (simp [*, errW_none, errW_some] <;> rfl), by (with_reducible repeat (first | apply zN | apply zM | apply zO)); exact HO1165.out, by repeat (first | (with_reducible first | exact HB.out | apply zC | apply zB | apply zF) | exact HB.out)⟩
 ·rw [if_neg c2] at H
  have c2b0 : decide (60000 < (l0.length : Int)) = false := decide_eq_false c2
  have c2b1 : decide (60000 < l0.length) = false := decide_eq_false (by omega)
  clear c2
  have H' := zA H
  clear H
  go_enter Try.func171, Try.ntmps171
  go_wp2_with (first | ((with_reducible refine gate_dst (N := 5) rfl ?_); refine Kd.R_lit (Kd.int .u8) _ 5 ?hg (N := 5) ?hd (xs := ([] : List Int)) (inner := []) (ok := fun _ => True) (okp := fun _ => True) ?hr ?hp (fun _ hk => hk) trivial (Below.refl _ _) (Nat.le_refl _) (by simp) ?_; (case hd => rfl); (case hg => rfl); (case hr => first | (go_simp; done) | (go_simp; rfl)); (case hp => exact (Reps.none _ _)); intro v1164 w5 ho6 hb hg_ hnew_; clear hg_ hnew_; (first | rw [← Ny1163.out] at ho6 | (simp only [Int.reduceToNat] at ho6; rw [← Ny1163.out] at ho6)); have n0_ := zA (Kd.R_lower ho6 (zL (by repeat (first | (with_reducible first | exact HB.out | apply zC | apply zB | apply zF) | exact HB.out)))); have n1_ := zA (below_step (by repeat (first | (with_reducible first | exact HB.out | apply zC | apply zB | apply zF) | exact HB.out)) hb); clear HB; have HO1165 := n0_; have HB := n1_; clear n0_ n1_; clear hb ho6))
  go_loopg [3, 4] k (fun kq v3 v4 w' => ∃ (x3_1 : List Int) (x4_1 : Int), v4 = .int .i64 x4_1 ∧ Aside0 (spec_Stuff.l0 kq l0 x3_1 x4_1 = some r) ∧ Aside0 (kq ≤ k) ∧ Aside0 (Kd.R (Kd.int .u8) 5 w' w.heap.size (fun _ => True) v3 x3_1) ∧ Aside0 (Below w.heap.size w w'))
  case atStart => exact ⟨(y1163), (0), (by first | rfl | (simp; done) | (simp [*]; done)), H', ⟨Nat.le_refl _⟩, ⟨by (with_reducible repeat (first | apply zN | apply zM | apply zO)); exact HO1165.out⟩, ⟨by repeat (first | (with_reducible first | exact HB.out | apply zC | apply zB | apply zF) | exact HB.out)⟩⟩
  case round =>
   clear H'
   try clear c1
   try clear c2
   try clear c2b0
   try clear c2b1
   try clear p2
   obtain ⟨x3_1, x4_1, rfl, HA, HK1, HO_3, HB⟩ := hrel
   cases gk with
   | zero => exact absurd HA.out (by simp [spec_Stuff.l0])
   | succ k1 =>
    have H := HA.out
    clear HA
    simp only [spec_Stuff.l0] at H
    by_cases c7 : x4_1 < (l0.length : Int)
    ·rw [if_pos c7] at H
     have c7b0 : decide (x4_1 < (l0.length : Int)) = true := zT c7
     clear c7
     by_cases c8 : 0 ≤ x4_1
     ·rw [if_pos c8] at H
      have c8b0 : decide (0 ≤ x4_1) = true := zT c8
      clear c8
      by_cases c9 : x3_1.length < 140737488355328
      ·rw [if_pos c9] at H
       have LMc9 := zA c9
       clear c9
       obtain ⟨y1167, hy1167⟩ : ∃ y_ : List Int, y_ = (x3_1 ++ [rd l0 x4_1]) := ⟨_, rfl⟩
       replace H : (if (rd l0 x4_1) = 255 then (if y1167.length < 140737488355328 then (spec_Stuff.l0 k1 l0 (y1167 ++ [0]) (wrap64 (x4_1 + 1))) else (none)) else (spec_Stuff.l0 k1 l0 y1167 (wrap64 (x4_1 + 1)))) = some r := by first | (rw [hy1167]; with_reducible exact H) | (have H2_ := (zS _ _).symm.trans H; rw [hy1167]; with_reducible exact H2_) | (have H2_ := (zS _ _).symm.trans H; with_reducible exact H2_) | with_reducible exact H | (rw [hy1167]; exact H) | exact H
       have Ny1167 := zA hy1167
       clear hy1167
       by_cases c10 : (rd l0 x4_1) = 255
       ·rw [if_pos c10] at H
        have c10b0 : ((rd l0 x4_1) == 255) = true := beq_iff_eq.mpr c10
        have c10b1 : ((rd l0 x4_1) != 255) = false := bne_eq_false_iff_eq.mpr c10
        clear c10
        by_cases c11 : y1167.length < 140737488355328
        ·rw [if_pos c11] at H
         have LMc11 := zA c11
         clear c11
         obtain ⟨y1171, hy1171⟩ : ∃ y_ : List Int, y_ = (y1167 ++ [0]) := ⟨_, rfl⟩
         replace H : (spec_Stuff.l0 k1 l0 y1171 (wrap64 (x4_1 + 1))) = some r := by first | (rw [hy1171]; with_reducible exact H) | (have H2_ := (zS _ _).symm.trans H; rw [hy1171]; with_reducible exact H2_) | (have H2_ := (zS _ _).symm.trans H; with_reducible exact H2_) | with_reducible exact H | (rw [hy1171]; exact H) | exact H
         have Ny1171 := zA hy1171
         clear hy1171
         have H' := zA H
         clear H
         have p1166 : 0 ≤ (x4_1 : Int) := zI (by first | (with_reducible assumption) | assumption)
         have q1166 : x4_1 < (l0.length : Int) := zI (by first | (with_reducible assumption) | assumption)
         obtain ⟨ad1166, e1166, hx1166_0⟩ := Kd.at_int HR0.out x4_1 p1166 q1166
         cases e1166
         replace hx1166_0 := (HB.out.cell (World.block_lt_of_cell? w _ hx1166_0)).trans hx1166_0
         replace p1166 := eq_true p1166
         replace q1166 := eq_true q1166
         go_wp2_with (first | ((with_reducible refine gate_builtin (b := .append) (xs := #[.tmp 16, .tmp 21]) rfl ?_); at_builtin; refine Kd.R_append (Kd.int .u8) (w0 := w) w.heap.size rfl (.tmp 16) (.tmp 21) 23 5 (.int .u8 0) 1 rfl Try.underlying23 info5 rfl (by decide) (by omega) u3 x3_1 (rd l0 x4_1) [.int .u8 (rd l0 x4_1)] (fun _ => True) (fun _ => False) rfl rfl ?aP (fun _ hk => hk.elim) ?aF ?aO ?aB ?aS ?aL ?_; (case aP => exact rfl); (case aB => exact (by repeat (first | (with_reducible first | exact HB.out | apply zC | apply zB | apply zF) | exact HB.out))); (case aF => exact (fun _ _ => trivial)); (case aO => exact (by (with_reducible repeat (first | apply zN | apply zM | apply zO)); exact HO_3.out)); (case aS => exact (zL (by repeat (first | (with_reducible first | exact HB.out | apply zC | apply zB | apply zF) | exact HB.out)))); (case aL => have := LMc9.out; omega); intro v1168 w12 ho hb hg hat; rw [← Ny1167.out] at ho; have n0_ := zA (hb); have n1_ := zA (ho); clear HB; clear HO_3; have HB := n0_; have HO1169 := n1_; clear n0_ n1_; clear ho hb hg hat; have p1170 : 0 ≤ (x4_1 : Int) := zI (by first | (with_reducible assumption) | assumption); have q1170 : x4_1 < (l0.length : Int) := zI (by first | (with_reducible assumption) | assumption); obtain ⟨ad1170, e1170, hx1170_0⟩ := Kd.at_int HR0.out x4_1 p1170 q1170; obtain rfl : ad1166 = ad1170 := (by injection e1170); replace hx1170_0 := (HB.out.cell (World.block_lt_of_cell? w _ hx1170_0)).trans hx1170_0; replace p1170 := eq_true p1170; replace q1170 := eq_true q1170) | ((with_reducible refine gate_builtin (b := .append) (xs := #[.tmp 28, .tmp 29]) rfl ?_); at_builtin; refine Kd.R_append (Kd.int .u8) (w0 := w) w.heap.size rfl (.tmp 28) (.tmp 29) 23 5 (.int .u8 0) 1 rfl Try.underlying23 info5 rfl (by decide) (by omega) v1168 y1167 0 [.int .u8 0] (fun _ => True) (fun _ => False) rfl rfl ?aP (fun _ hk => hk.elim) ?aF ?aO ?aB ?aS ?aL ?_; (case aP => exact rfl); (case aB => exact (by repeat (first | (with_reducible first | exact HB.out | apply zC | apply zB | apply zF) | exact HB.out))); (case aF => exact (fun _ _ => trivial)); (case aO => exact (by (with_reducible repeat (first | apply zN | apply zM | apply zO)); exact HO1169.out)); (case aS => exact (zL (by repeat (first | (with_reducible first | exact HB.out | apply zC | apply zB | apply zF) | exact HB.out)))); (case aL => have := LMc11.out; omega); intro v1172 w13 ho hb hg hat; rw [← Ny1171.out] at ho; have n0_ := zA (hb); have n1_ := zA (ho); clear HB; clear HO1169; have HB := n0_; have HO1173 := n1_; clear n0_ n1_; clear ho hb hg hat))
         go_roundg k1
         case measure => have := HK1.out; omega
         case rel => exact ⟨(y1171), (wrap64 (x4_1 + 1)), (by first | rfl | (simp; done) | (simp [*]; done)), H', ⟨by have := HK1.out; omega⟩, ⟨by (with_reducible repeat (first | apply zN | apply zM | apply zO)); exact HO1173.out⟩, ⟨by repeat (first | (with_reducible first | exact HB.out | apply zC | apply zB | apply zF) | exact HB.out)⟩⟩
        ·rw [if_neg c11] at H
         exact absurd H (by simp)
       ·rw [if_neg c10] at H
        have c10b0 : ((rd l0 x4_1) == 255) = false := beq_eq_false_iff_ne.mpr c10
        have c10b1 : ((rd l0 x4_1) != 255) = true := bne_iff_ne.mpr c10
        have H' := zA H
        clear H
        have p1166 : 0 ≤ (x4_1 : Int) := zI (by first | (with_reducible assumption) | assumption)
        have q1166 : x4_1 < (l0.length : Int) := zI (by first | (with_reducible assumption) | assumption)
        obtain ⟨ad1166, e1166, hx1166_0⟩ := Kd.at_int HR0.out x4_1 p1166 q1166
        cases e1166
        replace hx1166_0 := (HB.out.cell (World.block_lt_of_cell? w _ hx1166_0)).trans hx1166_0
        replace p1166 := eq_true p1166
        replace q1166 := eq_true q1166
        go_wp2_with (first | ((with_reducible refine gate_builtin (b := .append) (xs := #[.tmp 16, .tmp 21]) rfl ?_); at_builtin; refine Kd.R_append (Kd.int .u8) (w0 := w) w.heap.size rfl (.tmp 16) (.tmp 21) 23 5 (.int .u8 0) 1 rfl Try.underlying23 info5 rfl (by decide) (by omega) u3 x3_1 (rd l0 x4_1) [.int .u8 (rd l0 x4_1)] (fun _ => True) (fun _ => False) rfl rfl ?aP (fun _ hk => hk.elim) ?aF ?aO ?aB ?aS ?aL ?_; (case aP => exact rfl); (case aB => exact (by repeat (first | (with_reducible first | exact HB.out | apply zC | apply zB | apply zF) | exact HB.out))); (case aF => exact (fun _ _ => trivial)); (case aO => exact (by (with_reducible repeat (first | apply zN | apply zM | apply zO)); exact HO_3.out)); (case aS => exact (zL (by repeat (first | (with_reducible first | exact HB.out | apply zC | apply zB | apply zF) | exact HB.out)))); (case aL => have := LMc9.out; omega); intro v1168 w14 ho hb hg hat; rw [← Ny1167.out] at ho; have n0_ := zA (hb); have n1_ := zA (ho); clear HB; clear HO_3; have HB := n0_; have HO1169 := n1_; clear n0_ n1_; clear ho hb hg hat; have p1170 : 0 ≤ (x4_1 : Int) := zI (by first | (with_reducible assumption) | assumption); have q1170 : x4_1 < (l0.length : Int) := zI (by first | (with_reducible assumption) | assumption); obtain ⟨ad1170, e1170, hx1170_0⟩ := Kd.at_int HR0.out x4_1 p1170 q1170; obtain rfl : ad1166 = ad1170 := (by injection e1170); replace hx1170_0 := (HB.out.cell (World.block_lt_of_cell? w _ hx1170_0)).trans hx1170_0; replace p1170 := eq_true p1170; replace q1170 := eq_true q1170))
        go_roundg k1
        case measure => have := HK1.out; omega
        case rel => exact ⟨(y1167), (wrap64 (x4_1 + 1)), (by first | rfl | (simp; done) | (simp [*]; done)), H', ⟨by have := HK1.out; omega⟩, ⟨by (with_reducible repeat (first | apply zN | apply zM | apply zO)); exact HO1169.out⟩, ⟨by repeat (first | (with_reducible first | exact HB.out | apply zC | apply zB | apply zF) | exact HB.out)⟩⟩
      ·rw [if_neg c9] at H
       exact absurd H (by simp)
     ·rw [if_neg c8] at H
      exact absurd H (by simp)
    ·rw [if_neg c7] at H
     have c7b0 : decide (x4_1 < (l0.length : Int)) = false := decide_eq_false c7
     clear c7
     obtain rfl := Option.some.inj H
     go_wp2
     go_ret
     exact ⟨_, by first | rfl | (simp [errW_none, errW_some] <;> rfl) | (simp [*, errW_none, errW_some] <;> rfl), by (with_reducible repeat (first | apply zN | apply zM | apply zO)); exact HO_3.out, by repeat (first | (with_reducible first | exact HB.out | apply zC | apply zB | apply zF) | exact HB.out)⟩
theorem spec_Stuff.l0_ev (l : List Int) (hb : BytesL l) (hl : l.length ≤ 60000) : ∀ (d i : Nat) (x : List Int), i + d = l.length → BytesL x → x.length ≤ 2 * i → EvP (fun k => spec_Stuff.l0 k l x (i : Int)) (fun r => BytesL r ∧ r.length ≤ 2 * l.length) := by
 intro d
 induction d with
 | zero =>
  intro i x hi hx hxl
  exact EvP.step (fun _ => by rw [spec_Stuff.l0]) (EvP.ng (by omega) (EvP.now ⟨hx, by omega⟩))
 | succ d ih =>
  intro i x hi hx hxl
  refine EvP.step (fun _ => by rw [spec_Stuff.l0]) (EvP.ip (by omega) (EvP.ip (by omega) (EvP.ip (by omega) (EvP.some ?_))))
  rw [wrap_succ i (by omega)]
  have h1 := hx.app (BytesL.one (hb.rd (i : Int)))
  refine EvP.either (fun _ => ?_) (fun _ => ih (i + 1) _ (by omega) h1 (by simp; omega))
  exact EvP.ip (by simp; omega) (ih (i + 1) _ (by omega) (h1.app (BytesL.one ⟨Int.le_refl _, by decide⟩)) (by simp; omega))
theorem spec_Stuff.ev (l : List Int) (hb : BytesL l) (hl : l.length ≤ 60000) : EvP (fun k => spec_Stuff.f k l) (fun r => BytesL r ∧ r.length ≤ 2 * l.length) := by
 unfold spec_Stuff.f
 exact EvP.some (EvP.ng (by omega) (spec_Stuff.l0_ev l hb hl l.length 0 [] (Nat.zero_add _) BytesL.nil (by simp)))
end Go.Proofs.Ytcjjmfpkhhdmlaa.G


namespace Go.Proofs.Ytcjjmfpkhhdmlaa.G
open Go.RowKit Go.Proofs.YtcjjmfpkhhdmlaaW.PrintWords Go.Proofs.YtcjjmfpkhhdmlaaW.PrintLast Go.Proofs.YtcjjmfpkhhdmlaaW.PrintMore
attribute [local go_sem] max2_int min2_int max_two min_two max_three min_three max_four min_four   -- for this text's walks alone
def spec_WriteSegs.l0 : Nat → List (S131) → List Int → Int → Option (List Int)
 | 0, _, _, _ => none
 | k + 1, x0, x3, x4 => if x4 < (x0.length : Int) then (if 0 ≤ x4 then ((spec_l02Kind.f ((rd_T131 x0 x4).f0)).bind fun t1192 => (if t1192 = 1 then ((some (([255, ((rd_T131 x0 x4).f0) % 256, (wrap64 ((((rd_T131 x0 x4).f1).length : Int) / 256)) % 256, (((rd_T131 x0 x4).f1).length : Int) % 256] : List Int) : List Int)).bind fun y1193 => (if x3.length + y1193.length < 140737488355328 then ((some (x3 ++ y1193 : List Int)).bind fun y1196 => (if y1196.length + ((rd_T131 x0 x4).f1).length < 140737488355328 then ((some (y1196 ++ ((rd_T131 x0 x4).f1) : List Int)).bind fun y1199 => (if (y1199.length : Int) > 60000 then (some (([] : List Int))) else (spec_WriteSegs.l0 k x0 y1199 (wrap64 (x4 + 1))))) else (none))) else (none))) else (if t1192 = 2 then ((some (([255, ((rd_T131 x0 x4).f0) % 256] : List Int) : List Int)).bind fun y1205 => (if x3.length + y1205.length < 140737488355328 then ((some (x3 ++ y1205 : List Int)).bind fun y1208 => (if (y1208.length : Int) > 60000 then (some (([] : List Int))) else (spec_WriteSegs.l0 k x0 y1208 (wrap64 (x4 + 1))))) else (none))) else ((spec_Stuff.f k ((rd_T131 x0 x4).f1)).bind fun t1214 => (if x3.length + t1214.length < 140737488355328 then ((some (x3 ++ t1214 : List Int)).bind fun y1217 => (if (y1217.length : Int) > 60000 then (some (([] : List Int))) else (spec_WriteSegs.l0 k x0 y1217 (wrap64 (x4 + 1))))) else (none)))))) else (none)) else ((some (([255, 254] : List Int) : List Int)).bind fun y1181 => (if x3.length + y1181.length < 140737488355328 then ((some (x3 ++ y1181 : List Int)).bind fun y1184 => (if (y1184.length : Int) > 60000 then (some (([] : List Int))) else (some y1184))) else (none)))
def spec_WriteSegs.f (k : Nat) (l0 : List (S131)) : Option (List Int) := (spec_SegsOk.f k l0).bind fun t1174 => (if t1174 = true then (spec_WriteSegs.l0 k l0 (([84, 83] : List Int)) 0) else (some (([] : List Int))))
set_option maxHeartbeats 8000000 in
set_option maxRecDepth 100000 in
theorem spec_WriteSegs.calls (k : Nat) (A0 : Option Addr) (c0 : Nat) (l0 : List (S131)) (r : List Int) (w : World) (hr0 : Kd.C k131 w A0 l0.length l0) (hc0 : l0.length ≤ c0) (h : spec_WriteSegs.f k l0 = some r) :
  Calls Try.prog 143 #[.slice A0 l0.length c0] w fun e w' => ∃ v0_ : Value, e = .returned (v0_) ∧ Kd.R (Kd.int .u8) 5 w' w.heap.size (fun _ => True) v0_ r ∧ Below w.heap.size w w' := by
 have hu131 := Try.underlying131
 have HR0 := zA hr0
 have HC0 := zA hc0
 clear hr0 hc0
 have HB := zA (Below.refl w.heap.size w)
 have H : ((spec_SegsOk.f k l0).bind fun t1174 => (if t1174 = true then (spec_WriteSegs.l0 k l0 (([84, 83] : List Int)) 0) else (some (([] : List Int))))) = some r := h
 clear h
 replace H := Option.bind_eq_some_iff.mp H
 obtain ⟨t1174, A20, H⟩ := H
 replace H : (if t1174 = true then (spec_WriteSegs.l0 k l0 (([84, 83] : List Int)) 0) else (some (([] : List Int)))) = some r := H
 have A2 := zA A20
 clear A20
 by_cases c3 : t1174 = true
 ·subst c3
  have H1 : (spec_WriteSegs.l0 k l0 (([84, 83] : List Int)) 0) = some r := by rw [if_pos rfl] at H; exact H
  clear H
  have H := H1
  clear H1
  obtain ⟨y1178, hy1178⟩ : ∃ y_ : List Int, y_ = (([84, 83] : List Int)) := ⟨_, rfl⟩
  replace H : (spec_WriteSegs.l0 k l0 y1178 0) = some r := by first | (rw [hy1178]; with_reducible exact H) | (have H2_ := (zS _ _).symm.trans H; rw [hy1178]; with_reducible exact H2_) | (have H2_ := (zS _ _).symm.trans H; with_reducible exact H2_) | with_reducible exact H | (rw [hy1178]; exact H) | exact H
  have Ny1178 := zA hy1178
  clear hy1178
  have H' := zA H
  clear H
  go_enter Try.func143, Try.ntmps143
  go_wp2_with (first | ((with_reducible refine gate_callee (f := 170) rfl ?_); refine goesL_ (some 7) rfl rfl Try.func170 (by kernel_rfl) rfl #[.slice A0 l0.length c0] rfl (by (try simp only [zU, zV, zW]); first | done | rfl | (simp only [zR, zQ]; rfl)) ?_; (with_reducible refine (spec_SegsOk.calls k _ _ l0 true _ ?side1 ?side2 A2.out).mono ?_); (case side1 => repeat (first | exact HR0.out | (with_reducible refine yN ?_ _) | (with_reducible refine yL ?_ _) | (with_reducible refine yM ?_))); (case side2 => exact HC0.out); rintro e w' ⟨rfl, ⟨nd, rfl⟩⟩; refine ⟨_, rfl, ?_⟩) | ((with_reducible refine gate_dst (N := 10) rfl ?_); refine Kd.R_lit (Kd.int .u8) _ 5 ?hg (N := 10) ?hd (xs := ([84, 83] : List Int)) (inner := [.int .u8 84, .int .u8 83]) (ok := fun _ => True) (okp := fun _ => True) ?hr ?hp (fun _ hk => hk) trivial (Below.refl _ _) (Nat.le_refl _) (by simp) ?_; (case hd => rfl); (case hg => rfl); (case hr => first | (go_simp; done) | (go_simp; rfl)); (case hp => exact (Reps.one (show Kd.M (Kd.int .u8) _ _ _ 84 [.int .u8 84] from rfl) (Reps.one (show Kd.M (Kd.int .u8) _ _ _ 83 [.int .u8 83] from rfl) (Reps.none _ _)))); intro v1179 w4 ho5 hb hg_ hnew_; clear hg_ hnew_; (first | rw [← Ny1178.out] at ho5 | (simp only [Int.reduceToNat] at ho5; rw [← Ny1178.out] at ho5)); have n0_ := zA (Kd.R_lower ho5 (zL (by repeat (first | (with_reducible first | exact HB.out | apply zC | apply zB | apply zF) | exact HB.out)))); have n1_ := zA (below_step (by repeat (first | (with_reducible first | exact HB.out | apply zC | apply zB | apply zF) | exact HB.out)) hb); clear HB; have HO1180 := n0_; have HB := n1_; clear n0_ n1_; clear hb ho5))
  go_loopg [3, 4] k (fun kq v3 v4 w' => ∃ (x3_1 : List Int) (x4_1 : Int), v4 = .int .i64 x4_1 ∧ Aside0 (spec_WriteSegs.l0 kq l0 x3_1 x4_1 = some r) ∧ Aside0 (kq ≤ k) ∧ Aside0 (Kd.R (Kd.int .u8) 5 w' w.heap.size (fun _ => True) v3 x3_1) ∧ Aside0 (Below w.heap.size w w'))
  case atStart => exact ⟨(y1178), (0), (by first | rfl | (simp; done) | (simp [*]; done)), H', ⟨Nat.le_refl _⟩, ⟨by (with_reducible repeat (first | apply zN | apply zM | apply zO)); exact HO1180.out⟩, ⟨by repeat (first | (with_reducible first | exact HB.out | apply zC | apply zB | apply zF) | exact HB.out)⟩⟩
  case round =>
   clear H'
   try clear c1
   try clear p2
   try clear c3
   obtain ⟨x3_1, x4_1, rfl, HA, HK1, HO_3, HB⟩ := hrel
   cases gk with
   | zero => exact absurd HA.out (by simp [spec_WriteSegs.l0])
   | succ k1 =>
    have H := HA.out
    clear HA
    simp only [spec_WriteSegs.l0] at H
    by_cases c6 : x4_1 < (l0.length : Int)
    ·rw [if_pos c6] at H
     have c6b0 : decide (x4_1 < (l0.length : Int)) = true := zT c6
     clear c6
     by_cases c7 : 0 ≤ x4_1
     ·rw [if_pos c7] at H
      have c7b0 : decide (0 ≤ x4_1) = true := zT c7
      clear c7
      replace H := Option.bind_eq_some_iff.mp H
      obtain ⟨t1192, A80, H⟩ := H
      replace H : (if t1192 = 1 then ((some (([255, ((rd_T131 l0 x4_1).f0) % 256, (wrap64 ((((rd_T131 l0 x4_1).f1).length : Int) / 256)) % 256, (((rd_T131 l0 x4_1).f1).length : Int) % 256] : List Int) : List Int)).bind fun y1193 => (if x3_1.length + y1193.length < 140737488355328 then ((some (x3_1 ++ y1193 : List Int)).bind fun y1196 => (if y1196.length + ((rd_T131 l0 x4_1).f1).length < 140737488355328 then ((some (y1196 ++ ((rd_T131 l0 x4_1).f1) : List Int)).bind fun y1199 => (if (y1199.length : Int) > 60000 then (some (([] : List Int))) else (spec_WriteSegs.l0 k1 l0 y1199 (wrap64 (x4_1 + 1))))) else (none))) else (none))) else (if t1192 = 2 then ((some (([255, ((rd_T131 l0 x4_1).f0) % 256] : List Int) : List Int)).bind fun y1205 => (if x3_1.length + y1205.length < 140737488355328 then ((some (x3_1 ++ y1205 : List Int)).bind fun y1208 => (if (y1208.length : Int) > 60000 then (some (([] : List Int))) else (spec_WriteSegs.l0 k1 l0 y1208 (wrap64 (x4_1 + 1))))) else (none))) else ((spec_Stuff.f k1 ((rd_T131 l0 x4_1).f1)).bind fun t1214 => (if x3_1.length + t1214.length < 140737488355328 then ((some (x3_1 ++ t1214 : List Int)).bind fun y1217 => (if (y1217.length : Int) > 60000 then (some (([] : List Int))) else (spec_WriteSegs.l0 k1 l0 y1217 (wrap64 (x4_1 + 1))))) else (none))))) = some r := H
      have A8 := zA A80
      clear A80
      by_cases c9 : t1192 = 1
      ·rw [if_pos c9] at H
       have c9b0 : (t1192 == 1) = true := beq_iff_eq.mpr c9
       have c9b1 : (t1192 != 1) = false := bne_eq_false_iff_eq.mpr c9
       clear c9
       obtain ⟨y1193, hy1193⟩ : ∃ y_ : List Int, y_ = (([255, ((rd_T131 l0 x4_1).f0) % 256, (wrap64 ((((rd_T131 l0 x4_1).f1).length : Int) / 256)) % 256, (((rd_T131 l0 x4_1).f1).length : Int) % 256] : List Int)) := ⟨_, rfl⟩
       replace H : (if x3_1.length + y1193.length < 140737488355328 then ((some (x3_1 ++ y1193 : List Int)).bind fun y1196 => (if y1196.length + ((rd_T131 l0 x4_1).f1).length < 140737488355328 then ((some (y1196 ++ ((rd_T131 l0 x4_1).f1) : List Int)).bind fun y1199 => (if (y1199.length : Int) > 60000 then (some (([] : List Int))) else (spec_WriteSegs.l0 k1 l0 y1199 (wrap64 (x4_1 + 1))))) else (none))) else (none)) = some r := by first | (rw [hy1193]; with_reducible exact H) | (have H2_ := (zS _ _).symm.trans H; rw [hy1193]; with_reducible exact H2_) | (have H2_ := (zS _ _).symm.trans H; with_reducible exact H2_) | with_reducible exact H | (rw [hy1193]; exact H) | exact H
       have Ny1193 := zA hy1193
       clear hy1193
       by_cases c10 : x3_1.length + y1193.length < 140737488355328
       ·rw [if_pos c10] at H
        have LMc10 := zA c10
        clear c10
        obtain ⟨y1196, hy1196⟩ : ∃ y_ : List Int, y_ = (x3_1 ++ y1193) := ⟨_, rfl⟩
        replace H : (if y1196.length + ((rd_T131 l0 x4_1).f1).length < 140737488355328 then ((some (y1196 ++ ((rd_T131 l0 x4_1).f1) : List Int)).bind fun y1199 => (if (y1199.length : Int) > 60000 then (some (([] : List Int))) else (spec_WriteSegs.l0 k1 l0 y1199 (wrap64 (x4_1 + 1))))) else (none)) = some r := by first | (rw [hy1196]; with_reducible exact H) | (have H2_ := (zS _ _).symm.trans H; rw [hy1196]; with_reducible exact H2_) | (have H2_ := (zS _ _).symm.trans H; with_reducible exact H2_) | with_reducible exact H | (rw [hy1196]; exact H) | exact H
        have Ny1196 := zA hy1196
        clear hy1196
        by_cases c11 : y1196.length + ((rd_T131 l0 x4_1).f1).length < 140737488355328
        ·rw [if_pos c11] at H
         have LMc11 := zA c11
         clear c11
         obtain ⟨y1199, hy1199⟩ : ∃ y_ : List Int, y_ = (y1196 ++ ((rd_T131 l0 x4_1).f1)) := ⟨_, rfl⟩
         replace H : (if (y1199.length : Int) > 60000 then (some (([] : List Int))) else (spec_WriteSegs.l0 k1 l0 y1199 (wrap64 (x4_1 + 1)))) = some r := by first | (rw [hy1199]; with_reducible exact H) | (have H2_ := (zS _ _).symm.trans H; rw [hy1199]; with_reducible exact H2_) | (have H2_ := (zS _ _).symm.trans H; with_reducible exact H2_) | with_reducible exact H | (rw [hy1199]; exact H) | exact H
         have Ny1199 := zA hy1199
         clear hy1199
         by_cases c12 : (y1199.length : Int) > 60000
         ·rw [if_pos c12] at H
          have c12b0 : decide (60000 < (y1199.length : Int)) = true := zT c12
          have c12b1 : decide (60000 < y1199.length) = true := zT (by omega)
          clear c12
          obtain ⟨y1202, hy1202⟩ : ∃ y_ : List Int, y_ = (([] : List Int)) := ⟨_, rfl⟩
          replace H : (some y1202) = some r := by first | (rw [hy1202]; with_reducible exact H) | (have H2_ := (zS _ _).symm.trans H; rw [hy1202]; with_reducible exact H2_) | (have H2_ := (zS _ _).symm.trans H; with_reducible exact H2_) | with_reducible exact H | (rw [hy1202]; exact H) | exact H
          have Ny1202 := zA hy1202
          clear hy1202
          obtain rfl := Option.some.inj H
          have p1190 : 0 ≤ (x4_1 : Int) := zI (by first | (with_reducible assumption) | assumption)
          have q1190 : x4_1 < (l0.length : Int) := zI (by first | (with_reducible assumption) | assumption)
          obtain ⟨ad1190, A1190_1, c1190_1, e1190, hx1190_0, hx1190_1, hl1190_1, hi1190_1⟩ := at_T131 HR0.out x4_1 p1190 q1190
          cases e1190
          replace hx1190_0 := (HB.out.cell (World.block_lt_of_cell? w _ hx1190_0)).trans hx1190_0
          replace hx1190_1 := (HB.out.cell (World.block_lt_of_cell? w _ hx1190_1)).trans hx1190_1
          have HR1190_1 := zA hi1190_1
          have HC1190_1 := zA hl1190_1
          clear hi1190_1 hl1190_1
          replace p1190 := eq_true p1190
          replace q1190 := eq_true q1190
          go_wp2_with (first | ((with_reducible refine gate_dst (N := 5) rfl ?_); refine box_event ?hg (N := 5) ?hd (cs := #[.int .i64 0, .slice none 0 0]) (t := 131) ?hr ?_; (case hd => rfl); (case hg => rfl); (case hr => first | (go_simp; done) | (go_simp; rfl)); intro gb1191 hg w13 hbox hb; have n0_ := zA (Kd.R_below (by (with_reducible repeat (first | apply zN | apply zM | apply zO)); exact HO_3.out) hb); have n1_ := zA (below_step (by repeat (first | (with_reducible first | exact HB.out | apply zC | apply zB | apply zF) | exact HB.out)) hb); have n2_ := zA (hbox); have n3_ := zA ((by rw [hg]; exact (zL (by repeat (first | (with_reducible first | exact HB.out | apply zC | apply zB | apply zF) | exact HB.out))) : w.heap.size ≤ gb1191)); have n4_ := zA ((by rw [hg]; exact (zL (by repeat (first | (with_reducible first | exact HB.out | apply zC | apply zB | apply zF) | exact HB.out))) : w.heap.size ≤ gb1191)); clear HO_3; clear HB; have HO_3 := n0_; have HB := n1_; have BK1191 := n2_; have GW1191 := n3_; have GE1191 := n4_; clear n0_ n1_ n2_ n3_ n4_; clear hb hbox hg; have hcz14_0 : w13.cell? ⟨gb1191, 0, none⟩ = some (.int .i64 0) := (zK BK1191.out 0).trans rfl; have hcz14_1 : w13.cell? ⟨gb1191, 1, none⟩ = some (.slice none 0 0) := (zK BK1191.out 1).trans rfl; have hfz14_0 := zJ BK1191.out 0; have hfz14_1 := zJ BK1191.out 1) | ((with_reducible refine gate_callee (f := 132) rfl ?_); refine goesL_ (some 23) rfl rfl Try.func132 (by kernel_rfl) rfl #[.int .i64 ((rd_T131 l0 x4_1).f0)] rfl (by (try simp only [zU, zV, zW]); first | done | rfl | (simp only [zR, zQ]; rfl)) ?_; (with_reducible refine (spec_l02Kind.calls ((rd_T131 l0 x4_1).f0) t1192 _ A8.out).mono ?_); rintro e w' ⟨rfl, ⟨nd, rfl⟩⟩; refine ⟨_, rfl, ?_⟩) | ((with_reducible refine gate_dst (N := 45) rfl ?_); refine Kd.R_lit (Kd.int .u8) _ 5 ?hg (N := 45) ?hd (xs := ([255, ((rd_T131 l0 x4_1).f0) % 256, (wrap64 ((((rd_T131 l0 x4_1).f1).length : Int) / 256)) % 256, (((rd_T131 l0 x4_1).f1).length : Int) % 256] : List Int)) (inner := [.int .u8 255, .int .u8 (((rd_T131 l0 x4_1).f0) % 256), .int .u8 ((wrap64 ((((rd_T131 l0 x4_1).f1).length : Int) / 256)) % 256), .int .u8 ((((rd_T131 l0 x4_1).f1).length : Int) % 256)]) (ok := fun _ => True) (okp := fun _ => True) ?hr ?hp (fun _ hk => hk) trivial (Below.refl _ _) (Nat.le_refl _) (by simp) ?_; (case hd => rfl); (case hg => rfl); (case hr => first | (go_simp; done) | (go_simp; rfl)); (case hp => exact (Reps.one (show Kd.M (Kd.int .u8) _ _ _ 255 [.int .u8 255] from rfl) (Reps.one (show Kd.M (Kd.int .u8) _ _ _ (((rd_T131 l0 x4_1).f0) % 256) [.int .u8 (((rd_T131 l0 x4_1).f0) % 256)] from rfl) (Reps.one (show Kd.M (Kd.int .u8) _ _ _ ((wrap64 ((((rd_T131 l0 x4_1).f1).length : Int) / 256)) % 256) [.int .u8 ((wrap64 ((((rd_T131 l0 x4_1).f1).length : Int) / 256)) % 256)] from rfl) (Reps.one (show Kd.M (Kd.int .u8) _ _ _ ((((rd_T131 l0 x4_1).f1).length : Int) % 256) [.int .u8 ((((rd_T131 l0 x4_1).f1).length : Int) % 256)] from rfl) (Reps.none _ _)))))); intro v1194 w15 ho16 hb hg_ hnew_; clear hg_ hnew_; (first | rw [← Ny1193.out] at ho16 | (simp only [Int.reduceToNat] at ho16; rw [← Ny1193.out] at ho16)); have n0_ := zA (Kd.R_elder' (by (with_reducible repeat (first | apply zN | apply zM | apply zO)); exact (zP (Kd.R_far (p := ⟨gb1191, 1, none⟩) (Kd.R_far (p := ⟨gb1191, 0, none⟩) (zY HO_3.out BK1191.out (by decide)) (fun _ hk => hk.2) (.int .i64 ((rd_T131 l0 x4_1).f0))) (fun _ hk => hk.2) (.slice A1190_1 ((rd_T131 l0 x4_1).f1).length c1190_1)) (fun _ h_ => h_.1))) (Kd.R_base ho16) hb); have n1_ := zA (Kd.R_lower (Kd.R_new' ho16 (Kd.R_lt (by (with_reducible repeat (first | apply zN | apply zM | apply zO)); exact (zP (Kd.R_far (p := ⟨gb1191, 1, none⟩) (Kd.R_far (p := ⟨gb1191, 0, none⟩) (zY HO_3.out BK1191.out (by decide)) (fun _ hk => hk.2) (.int .i64 ((rd_T131 l0 x4_1).f0))) (fun _ hk => hk.2) (.slice A1190_1 ((rd_T131 l0 x4_1).f1).length c1190_1)) (fun _ h_ => h_.1))))) (zL (by repeat (first | (with_reducible first | exact HB.out | apply zC | apply zB | apply zF | refine zE ?_ GE1191.out) | exact HB.out)))); have n2_ := zA (blk_below (g := gb1191) (o := .cells #[.int .i64 ((rd_T131 l0 x4_1).f0), .slice A1190_1 ((rd_T131 l0 x4_1).f1).length c1190_1] 131 (0, 0)) (by (with_reducible repeat (first | refine zG ?_ _ | refine zH ?_ | refine zD ?_ _)); refine blk_put (cs := #[.int .i64 ((rd_T131 l0 x4_1).f0), .slice none 0 0]) ?_ 1 _ rfl; (with_reducible repeat (first | refine zG ?_ _ | refine zH ?_ | refine zD ?_ _)); refine blk_put (cs := #[.int .i64 0, .slice none 0 0]) ?_ 0 _ rfl; (with_reducible repeat (first | refine zG ?_ _ | refine zH ?_ | refine zD ?_ _)); exact BK1191.out) hb); have n3_ := zA (below_step (by repeat (first | (with_reducible first | exact HB.out | apply zC | apply zB | apply zF | refine zE ?_ GE1191.out) | exact HB.out)) hb); clear HO_3; clear BK1191; clear HB; have HO_3 := n0_; have HO1195 := n1_; have BK1191 := n2_; have HB := n3_; clear n0_ n1_ n2_ n3_; clear hb ho16; obtain ⟨Ao18, co18, eo18⟩ := Kd.R_slice HO1195.out; subst eo18) | ((with_reducible refine gate_builtin (b := .append) (xs := #[.tmp 31, .tmp 45]) rfl ?_); at_builtin; refine Kd.R_append_rows (Kd.int .u8) (w0 := w) w.heap.size rfl (.tmp 31) (.tmp 45) 23 5 (.int .u8 0) 1 rfl Try.underlying23 info5 rfl (by decide) (by omega) u3 x3_1 y1193 _ _ _ (fun k_ => some k_ ≠ (.slice Ao18 y1193.length co18 : Value).ownBlock) (fun _ => False) rfl rfl ?aO ?aR (fun _ _ h => h) (fun _ h => h.elim) ?aF ?aB ?aS ?aL ?_; (case aR => repeat (first | exact (yK HO1195.out).2.2 | (with_reducible refine yN ?_ _) | (with_reducible refine yL ?_ _) | (with_reducible refine yM ?_))); (case aB => exact (by repeat (first | (with_reducible first | exact HB.out | apply zC | apply zB | apply zF | refine zE ?_ GE1191.out) | exact HB.out))); (case aF => exact (fun k_ hk => Kd.fresh' (Kd.R_lt (by (with_reducible repeat (first | apply zN | apply zM | apply zO)); exact HO1195.out)) k_ hk)); (case aO => exact (by (with_reducible repeat (first | apply zN | apply zM | apply zO)); exact zP HO_3.out (fun _ hk => hk.2))); (case aS => exact (zL (by repeat (first | (with_reducible first | exact HB.out | apply zC | apply zB | apply zF | refine zE ?_ GE1191.out) | exact HB.out)))); (case aL => have := LMc10.out; omega); intro v1197 w17 ho hb hg hat; rw [← Ny1196.out] at ho; have n0_ := zA (blk_grown (g := gb1191) (o := .cells #[.int .i64 ((rd_T131 l0 x4_1).f0), .slice A1190_1 ((rd_T131 l0 x4_1).f1).length c1190_1] 131 (0, 0)) (by (with_reducible repeat (first | refine zG ?_ _ | refine zH ?_ | refine zD ?_ _)); exact BK1191.out) hg (Kd.R_ne HO_3.out BK1191.out (by decide))); have n1_ := zA (Kd.R_after (ok := (fun _ => True)) (by (with_reducible repeat (first | apply zN | apply zM | apply zO)); exact HO1195.out) hg hat); have n2_ := zA (hb); have n3_ := zA (ho); clear BK1191; clear HO1195; clear HB; clear HO_3; have BK1191 := n0_; have HO1195 := n1_; have HB := n2_; have HO1198 := n3_; clear n0_ n1_ n2_ n3_; clear ho hb hg hat; have hcz19_0 : w17.cell? ⟨gb1191, 0, none⟩ = some (.int .i64 ((rd_T131 l0 x4_1).f0)) := (zK BK1191.out 0).trans rfl; have hcz19_1 : w17.cell? ⟨gb1191, 1, none⟩ = some (.slice A1190_1 ((rd_T131 l0 x4_1).f1).length c1190_1) := (zK BK1191.out 1).trans rfl; have hfz19_0 := zJ BK1191.out 0; have hfz19_1 := zJ BK1191.out 1) | ((with_reducible refine gate_builtin (b := .append) (xs := #[.tmp 47, .tmp 49]) rfl ?_); at_builtin; refine Kd.R_append_rows (Kd.int .u8) (w0 := w) w.heap.size rfl (.tmp 47) (.tmp 49) 23 5 (.int .u8 0) 1 rfl Try.underlying23 info5 rfl (by decide) (by omega) v1197 y1196 ((rd_T131 l0 x4_1).f1) _ _ _ (fun k_ => some k_ ≠ (.slice Ao18 y1193.length co18 : Value).ownBlock) (fun _ => False) rfl rfl ?aO ?aR (fun _ _ h => h) (fun _ h => h.elim) ?aF ?aB ?aS ?aL ?_; (case aR => repeat (first | exact (Kd.C_below HR1190_1.out HB.out) | (with_reducible refine yN ?_ _) | (with_reducible refine yL ?_ _) | (with_reducible refine yM ?_))); (case aB => exact (by repeat (first | (with_reducible first | exact HB.out | apply zC | apply zB | apply zF | refine zE ?_ GE1191.out) | exact HB.out))); (case aF => exact (fun k_ hk => Kd.fresh' (Kd.R_lt (by (with_reducible repeat (first | apply zN | apply zM | apply zO)); exact HO1195.out)) k_ hk)); (case aO => exact (by (with_reducible repeat (first | apply zN | apply zM | apply zO)); exact HO1198.out)); (case aS => exact (zL (by repeat (first | (with_reducible first | exact HB.out | apply zC | apply zB | apply zF | refine zE ?_ GE1191.out) | exact HB.out)))); (case aL => have := LMc11.out; omega); intro v1200 w20 ho hb hg hat; rw [← Ny1199.out] at ho; have n0_ := zA (blk_grown (g := gb1191) (o := .cells #[.int .i64 ((rd_T131 l0 x4_1).f0), .slice A1190_1 ((rd_T131 l0 x4_1).f1).length c1190_1] 131 (0, 0)) (by (with_reducible repeat (first | refine zG ?_ _ | refine zH ?_ | refine zD ?_ _)); exact BK1191.out) hg (Kd.R_ne HO1198.out BK1191.out (by decide))); have n1_ := zA (Kd.R_after (ok := (fun _ => True)) (by (with_reducible repeat (first | apply zN | apply zM | apply zO)); exact HO1195.out) hg hat); have n2_ := zA (hb); have n3_ := zA (ho); clear BK1191; clear HO1195; clear HB; clear HO1198; have BK1191 := n0_; have HO1195 := n1_; have HB := n2_; have HO1201 := n3_; clear n0_ n1_ n2_ n3_; clear ho hb hg hat; obtain ⟨Ao21, co21, eo21⟩ := Kd.R_slice HO1201.out; subst eo21) | ((with_reducible refine gate_dst (N := 62) rfl ?_); refine Kd.R_lit (Kd.int .u8) _ 5 ?hg (N := 62) ?hd (xs := ([] : List Int)) (inner := []) (ok := fun _ => True) (okp := fun _ => True) ?hr ?hp (fun _ hk => hk) trivial (Below.refl _ _) (Nat.le_refl _) (by simp) ?_; (case hd => rfl); (case hg => rfl); (case hr => first | (go_simp; done) | (go_simp; rfl)); (case hp => exact (Reps.none _ _)); intro v1203 w22 ho23 hb hg_ hnew_; clear hg_ hnew_; (first | rw [← Ny1202.out] at ho23 | (simp only [Int.reduceToNat] at ho23; rw [← Ny1202.out] at ho23)); have n0_ := zA (Kd.R_elder' (by (with_reducible repeat (first | apply zN | apply zM | apply zO)); exact HO1195.out) (Kd.R_base ho23) hb); have n1_ := zA (Kd.R_elder' (by (with_reducible repeat (first | apply zN | apply zM | apply zO)); exact HO1201.out) (Kd.R_base ho23) hb); have n2_ := zA (Kd.R_lower (Kd.R_new' (Kd.R_new' ho23 (Kd.R_lt (by (with_reducible repeat (first | apply zN | apply zM | apply zO)); exact HO1195.out))) (Kd.R_lt (by (with_reducible repeat (first | apply zN | apply zM | apply zO)); exact HO1201.out))) (zL (by repeat (first | (with_reducible first | exact HB.out | apply zC | apply zB | apply zF | refine zE ?_ GE1191.out) | exact HB.out)))); have n3_ := zA (blk_below (g := gb1191) (o := .cells #[.int .i64 ((rd_T131 l0 x4_1).f0), .slice A1190_1 ((rd_T131 l0 x4_1).f1).length c1190_1] 131 (0, 0)) (by (with_reducible repeat (first | refine zG ?_ _ | refine zH ?_ | refine zD ?_ _)); exact BK1191.out) hb); have n4_ := zA (below_step (by repeat (first | (with_reducible first | exact HB.out | apply zC | apply zB | apply zF | refine zE ?_ GE1191.out) | exact HB.out)) hb); clear HO1195; clear HO1201; clear BK1191; clear HB; have HO1195 := n0_; have HO1201 := n1_; have HO1204 := n2_; have BK1191 := n3_; have HB := n4_; clear n0_ n1_ n2_ n3_ n4_; clear hb ho23))
          go_ret
          exact ⟨_, by first | rfl | (simp [errW_none, errW_some] <;> rfl) | (simp [*, errW_none, errW_some] <;> rfl), by (with_reducible repeat (first | apply zN | apply zM | apply zO)); exact zP HO1204.out (fun _ hk => trivial), by repeat (first | (with_reducible first | exact HB.out | apply zC | apply zB | apply zF | refine zE ?_ GE1191.out) | exact HB.out)⟩
         ·rw [if_neg c12] at H
          have c12b0 : decide (60000 < (y1199.length : Int)) = false := decide_eq_false c12
          have c12b1 : decide (60000 < y1199.length) = false := decide_eq_false (by omega)
          clear c12
          have H' := zA H
          clear H
          have p1190 : 0 ≤ (x4_1 : Int) := zI (by first | (with_reducible assumption) | assumption)
          have q1190 : x4_1 < (l0.length : Int) := zI (by first | (with_reducible assumption) | assumption)
          obtain ⟨ad1190, A1190_1, c1190_1, e1190, hx1190_0, hx1190_1, hl1190_1, hi1190_1⟩ := at_T131 HR0.out x4_1 p1190 q1190
          cases e1190
          replace hx1190_0 := (HB.out.cell (World.block_lt_of_cell? w _ hx1190_0)).trans hx1190_0
          replace hx1190_1 := (HB.out.cell (World.block_lt_of_cell? w _ hx1190_1)).trans hx1190_1
          have HR1190_1 := zA hi1190_1
          have HC1190_1 := zA hl1190_1
          clear hi1190_1 hl1190_1
          replace p1190 := eq_true p1190
          replace q1190 := eq_true q1190
          go_wp2_with (first | ((with_reducible refine gate_dst (N := 5) rfl ?_); refine box_event ?hg (N := 5) ?hd (cs := #[.int .i64 0, .slice none 0 0]) (t := 131) ?hr ?_; (case hd => rfl); (case hg => rfl); (case hr => first | (go_simp; done) | (go_simp; rfl)); intro gb1191 hg w24 hbox hb; have n0_ := zA (Kd.R_below (by (with_reducible repeat (first | apply zN | apply zM | apply zO)); exact HO_3.out) hb); have n1_ := zA (below_step (by repeat (first | (with_reducible first | exact HB.out | apply zC | apply zB | apply zF) | exact HB.out)) hb); have n2_ := zA (hbox); have n3_ := zA ((by rw [hg]; exact (zL (by repeat (first | (with_reducible first | exact HB.out | apply zC | apply zB | apply zF) | exact HB.out))) : w.heap.size ≤ gb1191)); have n4_ := zA ((by rw [hg]; exact (zL (by repeat (first | (with_reducible first | exact HB.out | apply zC | apply zB | apply zF) | exact HB.out))) : w.heap.size ≤ gb1191)); clear HO_3; clear HB; have HO_3 := n0_; have HB := n1_; have BK1191 := n2_; have GW1191 := n3_; have GE1191 := n4_; clear n0_ n1_ n2_ n3_ n4_; clear hb hbox hg; have hcz25_0 : w24.cell? ⟨gb1191, 0, none⟩ = some (.int .i64 0) := (zK BK1191.out 0).trans rfl; have hcz25_1 : w24.cell? ⟨gb1191, 1, none⟩ = some (.slice none 0 0) := (zK BK1191.out 1).trans rfl; have hfz25_0 := zJ BK1191.out 0; have hfz25_1 := zJ BK1191.out 1) | ((with_reducible refine gate_callee (f := 132) rfl ?_); refine goesL_ (some 23) rfl rfl Try.func132 (by kernel_rfl) rfl #[.int .i64 ((rd_T131 l0 x4_1).f0)] rfl (by (try simp only [zU, zV, zW]); first | done | rfl | (simp only [zR, zQ]; rfl)) ?_; (with_reducible refine (spec_l02Kind.calls ((rd_T131 l0 x4_1).f0) t1192 _ A8.out).mono ?_); rintro e w' ⟨rfl, ⟨nd, rfl⟩⟩; refine ⟨_, rfl, ?_⟩) | ((with_reducible refine gate_dst (N := 45) rfl ?_); refine Kd.R_lit (Kd.int .u8) _ 5 ?hg (N := 45) ?hd (xs := ([255, ((rd_T131 l0 x4_1).f0) % 256, (wrap64 ((((rd_T131 l0 x4_1).f1).length : Int) / 256)) % 256, (((rd_T131 l0 x4_1).f1).length : Int) % 256] : List Int)) (inner := [.int .u8 255, .int .u8 (((rd_T131 l0 x4_1).f0) % 256), .int .u8 ((wrap64 ((((rd_T131 l0 x4_1).f1).length : Int) / 256)) % 256), .int .u8 ((((rd_T131 l0 x4_1).f1).length : Int) % 256)]) (ok := fun _ => True) (okp := fun _ => True) ?hr ?hp (fun _ hk => hk) trivial (Below.refl _ _) (Nat.le_refl _) (by simp) ?_; (case hd => rfl); (case hg => rfl); (case hr => first | (go_simp; done) | (go_simp; rfl)); (case hp => exact (Reps.one (show Kd.M (Kd.int .u8) _ _ _ 255 [.int .u8 255] from rfl) (Reps.one (show Kd.M (Kd.int .u8) _ _ _ (((rd_T131 l0 x4_1).f0) % 256) [.int .u8 (((rd_T131 l0 x4_1).f0) % 256)] from rfl) (Reps.one (show Kd.M (Kd.int .u8) _ _ _ ((wrap64 ((((rd_T131 l0 x4_1).f1).length : Int) / 256)) % 256) [.int .u8 ((wrap64 ((((rd_T131 l0 x4_1).f1).length : Int) / 256)) % 256)] from rfl) (Reps.one (show Kd.M (Kd.int .u8) _ _ _ ((((rd_T131 l0 x4_1).f1).length : Int) % 256) [.int .u8 ((((rd_T131 l0 x4_1).f1).length : Int) % 256)] from rfl) (Reps.none _ _)))))); intro v1194 w26 ho27 hb hg_ hnew_; clear hg_ hnew_; (first | rw [← Ny1193.out] at ho27 | (simp only [Int.reduceToNat] at ho27; rw [← Ny1193.out] at ho27)); have n0_ := zA (Kd.R_elder' (by (with_reducible repeat (first | apply zN | apply zM | apply zO)); exact (zP (Kd.R_far (p := ⟨gb1191, 1, none⟩) (Kd.R_far (p := ⟨gb1191, 0, none⟩) (zY HO_3.out BK1191.out (by decide)) (fun _ hk => hk.2) (.int .i64 ((rd_T131 l0 x4_1).f0))) (fun _ hk => hk.2) (.slice A1190_1 ((rd_T131 l0 x4_1).f1).length c1190_1)) (fun _ h_ => h_.1))) (Kd.R_base ho27) hb); have n1_ := zA (Kd.R_lower (Kd.R_new' ho27 (Kd.R_lt (by (with_reducible repeat (first | apply zN | apply zM | apply zO)); exact (zP (Kd.R_far (p := ⟨gb1191, 1, none⟩) (Kd.R_far (p := ⟨gb1191, 0, none⟩) (zY HO_3.out BK1191.out (by decide)) (fun _ hk => hk.2) (.int .i64 ((rd_T131 l0 x4_1).f0))) (fun _ hk => hk.2) (.slice A1190_1 ((rd_T131 l0 x4_1).f1).length c1190_1)) (fun _ h_ => h_.1))))) (zL (by repeat (first | (with_reducible first | exact HB.out | apply zC | apply zB | apply zF | refine zE ?_ GE1191.out) | exact HB.out)))); have n2_ := zA (blk_below (g := gb1191) (o := .cells #[.int .i64 ((rd_T131 l0 x4_1).f0), .slice A1190_1 ((rd_T131 l0 x4_1).f1).length c1190_1] 131 (0, 0)) (by (with_reducible repeat (first | refine zG ?_ _ | refine zH ?_ | refine zD ?_ _)); refine blk_put (cs := #[.int .i64 ((rd_T131 l0 x4_1).f0), .slice none 0 0]) ?_ 1 _ rfl; (with_reducible repeat (first | refine zG ?_ _ | refine zH ?_ | refine zD ?_ _)); refine blk_put (cs := #[.int .i64 0, .slice none 0 0]) ?_ 0 _ rfl; (with_reducible repeat (first | refine zG ?_ _ | refine zH ?_ | refine zD ?_ _)); exact BK1191.out) hb); have n3_ := zA (below_step (by repeat (first | (with_reducible first | exact HB.out | apply zC | apply zB | apply zF | refine zE ?_ GE1191.out) | exact HB.out)) hb); clear HO_3; clear BK1191; clear HB; have HO_3 := n0_; have HO1195 := n1_; have BK1191 := n2_; have HB := n3_; clear n0_ n1_ n2_ n3_; clear hb ho27; obtain ⟨Ao29, co29, eo29⟩ := Kd.R_slice HO1195.out; subst eo29) | ((with_reducible refine gate_builtin (b := .append) (xs := #[.tmp 31, .tmp 45]) rfl ?_); at_builtin; refine Kd.R_append_rows (Kd.int .u8) (w0 := w) w.heap.size rfl (.tmp 31) (.tmp 45) 23 5 (.int .u8 0) 1 rfl Try.underlying23 info5 rfl (by decide) (by omega) u3 x3_1 y1193 _ _ _ (fun k_ => some k_ ≠ (.slice Ao29 y1193.length co29 : Value).ownBlock) (fun _ => False) rfl rfl ?aO ?aR (fun _ _ h => h) (fun _ h => h.elim) ?aF ?aB ?aS ?aL ?_; (case aR => repeat (first | exact (yK HO1195.out).2.2 | (with_reducible refine yN ?_ _) | (with_reducible refine yL ?_ _) | (with_reducible refine yM ?_))); (case aB => exact (by repeat (first | (with_reducible first | exact HB.out | apply zC | apply zB | apply zF | refine zE ?_ GE1191.out) | exact HB.out))); (case aF => exact (fun k_ hk => Kd.fresh' (Kd.R_lt (by (with_reducible repeat (first | apply zN | apply zM | apply zO)); exact HO1195.out)) k_ hk)); (case aO => exact (by (with_reducible repeat (first | apply zN | apply zM | apply zO)); exact zP HO_3.out (fun _ hk => hk.2))); (case aS => exact (zL (by repeat (first | (with_reducible first | exact HB.out | apply zC | apply zB | apply zF | refine zE ?_ GE1191.out) | exact HB.out)))); (case aL => have := LMc10.out; omega); intro v1197 w28 ho hb hg hat; rw [← Ny1196.out] at ho; have n0_ := zA (blk_grown (g := gb1191) (o := .cells #[.int .i64 ((rd_T131 l0 x4_1).f0), .slice A1190_1 ((rd_T131 l0 x4_1).f1).length c1190_1] 131 (0, 0)) (by (with_reducible repeat (first | refine zG ?_ _ | refine zH ?_ | refine zD ?_ _)); exact BK1191.out) hg (Kd.R_ne HO_3.out BK1191.out (by decide))); have n1_ := zA (Kd.R_after (ok := (fun _ => True)) (by (with_reducible repeat (first | apply zN | apply zM | apply zO)); exact HO1195.out) hg hat); have n2_ := zA (hb); have n3_ := zA (ho); clear BK1191; clear HO1195; clear HB; clear HO_3; have BK1191 := n0_; have HO1195 := n1_; have HB := n2_; have HO1198 := n3_; clear n0_ n1_ n2_ n3_; clear ho hb hg hat; have hcz30_0 : w28.cell? ⟨gb1191, 0, none⟩ = some (.int .i64 ((rd_T131 l0 x4_1).f0)) := (zK BK1191.out 0).trans rfl; have hcz30_1 : w28.cell? ⟨gb1191, 1, none⟩ = some (.slice A1190_1 ((rd_T131 l0 x4_1).f1).length c1190_1) := (zK BK1191.out 1).trans rfl; have hfz30_0 := zJ BK1191.out 0; have hfz30_1 := zJ BK1191.out 1) | ((with_reducible refine gate_builtin (b := .append) (xs := #[.tmp 47, .tmp 49]) rfl ?_); at_builtin; refine Kd.R_append_rows (Kd.int .u8) (w0 := w) w.heap.size rfl (.tmp 47) (.tmp 49) 23 5 (.int .u8 0) 1 rfl Try.underlying23 info5 rfl (by decide) (by omega) v1197 y1196 ((rd_T131 l0 x4_1).f1) _ _ _ (fun k_ => some k_ ≠ (.slice Ao29 y1193.length co29 : Value).ownBlock) (fun _ => False) rfl rfl ?aO ?aR (fun _ _ h => h) (fun _ h => h.elim) ?aF ?aB ?aS ?aL ?_; (case aR => repeat (first | exact (Kd.C_below HR1190_1.out HB.out) | (with_reducible refine yN ?_ _) | (with_reducible refine yL ?_ _) | (with_reducible refine yM ?_))); (case aB => exact (by repeat (first | (with_reducible first | exact HB.out | apply zC | apply zB | apply zF | refine zE ?_ GE1191.out) | exact HB.out))); (case aF => exact (fun k_ hk => Kd.fresh' (Kd.R_lt (by (with_reducible repeat (first | apply zN | apply zM | apply zO)); exact HO1195.out)) k_ hk)); (case aO => exact (by (with_reducible repeat (first | apply zN | apply zM | apply zO)); exact HO1198.out)); (case aS => exact (zL (by repeat (first | (with_reducible first | exact HB.out | apply zC | apply zB | apply zF | refine zE ?_ GE1191.out) | exact HB.out)))); (case aL => have := LMc11.out; omega); intro v1200 w31 ho hb hg hat; rw [← Ny1199.out] at ho; have n0_ := zA (blk_grown (g := gb1191) (o := .cells #[.int .i64 ((rd_T131 l0 x4_1).f0), .slice A1190_1 ((rd_T131 l0 x4_1).f1).length c1190_1] 131 (0, 0)) (by (with_reducible repeat (first | refine zG ?_ _ | refine zH ?_ | refine zD ?_ _)); exact BK1191.out) hg (Kd.R_ne HO1198.out BK1191.out (by decide))); have n1_ := zA (Kd.R_after (ok := (fun _ => True)) (by (with_reducible repeat (first | apply zN | apply zM | apply zO)); exact HO1195.out) hg hat); have n2_ := zA (hb); have n3_ := zA (ho); clear BK1191; clear HO1195; clear HB; clear HO1198; have BK1191 := n0_; have HO1195 := n1_; have HB := n2_; have HO1201 := n3_; clear n0_ n1_ n2_ n3_; clear ho hb hg hat; obtain ⟨Ao32, co32, eo32⟩ := Kd.R_slice HO1201.out; subst eo32))
          go_roundg k1
          case measure => have := HK1.out; omega
          case rel => exact ⟨(y1199), (wrap64 (x4_1 + 1)), (by first | rfl | (simp; done) | (simp [*]; done)), H', ⟨by have := HK1.out; omega⟩, ⟨by (with_reducible repeat (first | apply zN | apply zM | apply zO)); exact zP HO1201.out (fun _ hk => trivial)⟩, ⟨by repeat (first | (with_reducible first | exact HB.out | apply zC | apply zB | apply zF | refine zE ?_ GE1191.out) | exact HB.out)⟩⟩
        ·rw [if_neg c11] at H
         exact absurd H (by simp)
       ·rw [if_neg c10] at H
        exact absurd H (by simp)
      ·rw [if_neg c9] at H
       have c9b0 : (t1192 == 1) = false := beq_eq_false_iff_ne.mpr c9
       have c9b1 : (t1192 != 1) = true := bne_iff_ne.mpr c9
       by_cases c33 : t1192 = 2
       ·rw [if_pos c33] at H
        have c33b0 : (t1192 == 2) = true := beq_iff_eq.mpr c33
        have c33b1 : (t1192 != 2) = false := bne_eq_false_iff_eq.mpr c33
        clear c33
        obtain ⟨y1205, hy1205⟩ : ∃ y_ : List Int, y_ = (([255, ((rd_T131 l0 x4_1).f0) % 256] : List Int)) := ⟨_, rfl⟩
        replace H : (if x3_1.length + y1205.length < 140737488355328 then ((some (x3_1 ++ y1205 : List Int)).bind fun y1208 => (if (y1208.length : Int) > 60000 then (some (([] : List Int))) else (spec_WriteSegs.l0 k1 l0 y1208 (wrap64 (x4_1 + 1))))) else (none)) = some r := by first | (rw [hy1205]; with_reducible exact H) | (have H2_ := (zS _ _).symm.trans H; rw [hy1205]; with_reducible exact H2_) | (have H2_ := (zS _ _).symm.trans H; with_reducible exact H2_) | with_reducible exact H | (rw [hy1205]; exact H) | exact H
        have Ny1205 := zA hy1205
        clear hy1205
        by_cases c34 : x3_1.length + y1205.length < 140737488355328
        ·rw [if_pos c34] at H
         have LMc34 := zA c34
         clear c34
         obtain ⟨y1208, hy1208⟩ : ∃ y_ : List Int, y_ = (x3_1 ++ y1205) := ⟨_, rfl⟩
         replace H : (if (y1208.length : Int) > 60000 then (some (([] : List Int))) else (spec_WriteSegs.l0 k1 l0 y1208 (wrap64 (x4_1 + 1)))) = some r := by first | (rw [hy1208]; with_reducible exact H) | (have H2_ := (zS _ _).symm.trans H; rw [hy1208]; with_reducible exact H2_) | (have H2_ := (zS _ _).symm.trans H; with_reducible exact H2_) | with_reducible exact H | (rw [hy1208]; exact H) | exact H
         have Ny1208 := zA hy1208
         clear hy1208
         by_cases c35 : (y1208.length : Int) > 60000
         ·rw [if_pos c35] at H
          have c35b0 : decide (60000 < (y1208.length : Int)) = true := zT c35
          have c35b1 : decide (60000 < y1208.length) = true := zT (by omega)
          clear c35
          obtain ⟨y1211, hy1211⟩ : ∃ y_ : List Int, y_ = (([] : List Int)) := ⟨_, rfl⟩
          replace H : (some y1211) = some r := by first | (rw [hy1211]; with_reducible exact H) | (have H2_ := (zS _ _).symm.trans H; rw [hy1211]; with_reducible exact H2_) | (have H2_ := (zS _ _).symm.trans H; with_reducible exact H2_) | with_reducible exact H | (rw [hy1211]; exact H) | exact H
          have Ny1211 := zA hy1211
          clear hy1211
          obtain rfl := Option.some.inj H
          have p1190 : 0 ≤ (x4_1 : Int) := zI (by first | (with_reducible assumption) | assumption)
          have q1190 : x4_1 < (l0.length : Int) := zI (by first | (with_reducible assumption) | assumption)
          obtain ⟨ad1190, A1190_1, c1190_1, e1190, hx1190_0, hx1190_1, hl1190_1, hi1190_1⟩ := at_T131 HR0.out x4_1 p1190 q1190
          cases e1190
          replace hx1190_0 := (HB.out.cell (World.block_lt_of_cell? w _ hx1190_0)).trans hx1190_0
          replace hx1190_1 := (HB.out.cell (World.block_lt_of_cell? w _ hx1190_1)).trans hx1190_1
          have HR1190_1 := zA hi1190_1
          have HC1190_1 := zA hl1190_1
          clear hi1190_1 hl1190_1
          replace p1190 := eq_true p1190
          replace q1190 := eq_true q1190
          go_wp2_with (first | ((with_reducible refine gate_dst (N := 5) rfl ?_); refine box_event ?hg (N := 5) ?hd (cs := #[.int .i64 0, .slice none 0 0]) (t := 131) ?hr ?_; (case hd => rfl); (case hg => rfl); (case hr => first | (go_simp; done) | (go_simp; rfl)); intro gb1191 hg w36 hbox hb; have n0_ := zA (Kd.R_below (by (with_reducible repeat (first | apply zN | apply zM | apply zO)); exact HO_3.out) hb); have n1_ := zA (below_step (by repeat (first | (with_reducible first | exact HB.out | apply zC | apply zB | apply zF) | exact HB.out)) hb); have n2_ := zA (hbox); have n3_ := zA ((by rw [hg]; exact (zL (by repeat (first | (with_reducible first | exact HB.out | apply zC | apply zB | apply zF) | exact HB.out))) : w.heap.size ≤ gb1191)); have n4_ := zA ((by rw [hg]; exact (zL (by repeat (first | (with_reducible first | exact HB.out | apply zC | apply zB | apply zF) | exact HB.out))) : w.heap.size ≤ gb1191)); clear HO_3; clear HB; have HO_3 := n0_; have HB := n1_; have BK1191 := n2_; have GW1191 := n3_; have GE1191 := n4_; clear n0_ n1_ n2_ n3_ n4_; clear hb hbox hg; have hcz37_0 : w36.cell? ⟨gb1191, 0, none⟩ = some (.int .i64 0) := (zK BK1191.out 0).trans rfl; have hcz37_1 : w36.cell? ⟨gb1191, 1, none⟩ = some (.slice none 0 0) := (zK BK1191.out 1).trans rfl; have hfz37_0 := zJ BK1191.out 0; have hfz37_1 := zJ BK1191.out 1) | ((with_reducible refine gate_callee (f := 132) rfl ?_); refine goesL_ (some 23) rfl rfl Try.func132 (by kernel_rfl) rfl #[.int .i64 ((rd_T131 l0 x4_1).f0)] rfl (by (try simp only [zU, zV, zW]); first | done | rfl | (simp only [zR, zQ]; rfl)) ?_; (with_reducible refine (spec_l02Kind.calls ((rd_T131 l0 x4_1).f0) t1192 _ A8.out).mono ?_); rintro e w' ⟨rfl, ⟨nd, rfl⟩⟩; refine ⟨_, rfl, ?_⟩) | ((with_reducible refine gate_dst (N := 57) rfl ?_); refine Kd.R_lit (Kd.int .u8) _ 5 ?hg (N := 57) ?hd (xs := ([255, ((rd_T131 l0 x4_1).f0) % 256] : List Int)) (inner := [.int .u8 255, .int .u8 (((rd_T131 l0 x4_1).f0) % 256)]) (ok := fun _ => True) (okp := fun _ => True) ?hr ?hp (fun _ hk => hk) trivial (Below.refl _ _) (Nat.le_refl _) (by simp) ?_; (case hd => rfl); (case hg => rfl); (case hr => first | (go_simp; done) | (go_simp; rfl)); (case hp => exact (Reps.one (show Kd.M (Kd.int .u8) _ _ _ 255 [.int .u8 255] from rfl) (Reps.one (show Kd.M (Kd.int .u8) _ _ _ (((rd_T131 l0 x4_1).f0) % 256) [.int .u8 (((rd_T131 l0 x4_1).f0) % 256)] from rfl) (Reps.none _ _)))); intro v1206 w38 ho39 hb hg_ hnew_; clear hg_ hnew_; (first | rw [← Ny1205.out] at ho39 | (simp only [Int.reduceToNat] at ho39; rw [← Ny1205.out] at ho39)); have n0_ := zA (Kd.R_elder' (by (with_reducible repeat (first | apply zN | apply zM | apply zO)); exact (zP (Kd.R_far (p := ⟨gb1191, 1, none⟩) (Kd.R_far (p := ⟨gb1191, 0, none⟩) (zY HO_3.out BK1191.out (by decide)) (fun _ hk => hk.2) (.int .i64 ((rd_T131 l0 x4_1).f0))) (fun _ hk => hk.2) (.slice A1190_1 ((rd_T131 l0 x4_1).f1).length c1190_1)) (fun _ h_ => h_.1))) (Kd.R_base ho39) hb); have n1_ := zA (Kd.R_lower (Kd.R_new' ho39 (Kd.R_lt (by (with_reducible repeat (first | apply zN | apply zM | apply zO)); exact (zP (Kd.R_far (p := ⟨gb1191, 1, none⟩) (Kd.R_far (p := ⟨gb1191, 0, none⟩) (zY HO_3.out BK1191.out (by decide)) (fun _ hk => hk.2) (.int .i64 ((rd_T131 l0 x4_1).f0))) (fun _ hk => hk.2) (.slice A1190_1 ((rd_T131 l0 x4_1).f1).length c1190_1)) (fun _ h_ => h_.1))))) (zL (by repeat (first | (with_reducible first | exact HB.out | apply zC | apply zB | apply zF | refine zE ?_ GE1191.out) | exact HB.out)))); have n2_ := zA (blk_below (g := gb1191) (o := .cells #[.int .i64 ((rd_T131 l0 x4_1).f0), .slice A1190_1 ((rd_T131 l0 x4_1).f1).length c1190_1] 131 (0, 0)) (by (with_reducible repeat (first | refine zG ?_ _ | refine zH ?_ | refine zD ?_ _)); refine blk_put (cs := #[.int .i64 ((rd_T131 l0 x4_1).f0), .slice none 0 0]) ?_ 1 _ rfl; (with_reducible repeat (first | refine zG ?_ _ | refine zH ?_ | refine zD ?_ _)); refine blk_put (cs := #[.int .i64 0, .slice none 0 0]) ?_ 0 _ rfl; (with_reducible repeat (first | refine zG ?_ _ | refine zH ?_ | refine zD ?_ _)); exact BK1191.out) hb); have n3_ := zA (below_step (by repeat (first | (with_reducible first | exact HB.out | apply zC | apply zB | apply zF | refine zE ?_ GE1191.out) | exact HB.out)) hb); clear HO_3; clear BK1191; clear HB; have HO_3 := n0_; have HO1207 := n1_; have BK1191 := n2_; have HB := n3_; clear n0_ n1_ n2_ n3_; clear hb ho39; obtain ⟨Ao41, co41, eo41⟩ := Kd.R_slice HO1207.out; subst eo41) | ((with_reducible refine gate_builtin (b := .append) (xs := #[.tmp 53, .tmp 57]) rfl ?_); at_builtin; refine Kd.R_append_rows (Kd.int .u8) (w0 := w) w.heap.size rfl (.tmp 53) (.tmp 57) 23 5 (.int .u8 0) 1 rfl Try.underlying23 info5 rfl (by decide) (by omega) u3 x3_1 y1205 _ _ _ (fun k_ => some k_ ≠ (.slice Ao41 y1205.length co41 : Value).ownBlock) (fun _ => False) rfl rfl ?aO ?aR (fun _ _ h => h) (fun _ h => h.elim) ?aF ?aB ?aS ?aL ?_; (case aR => repeat (first | exact (yK HO1207.out).2.2 | (with_reducible refine yN ?_ _) | (with_reducible refine yL ?_ _) | (with_reducible refine yM ?_))); (case aB => exact (by repeat (first | (with_reducible first | exact HB.out | apply zC | apply zB | apply zF | refine zE ?_ GE1191.out) | exact HB.out))); (case aF => exact (fun k_ hk => Kd.fresh' (Kd.R_lt (by (with_reducible repeat (first | apply zN | apply zM | apply zO)); exact HO1207.out)) k_ hk)); (case aO => exact (by (with_reducible repeat (first | apply zN | apply zM | apply zO)); exact zP HO_3.out (fun _ hk => hk.2))); (case aS => exact (zL (by repeat (first | (with_reducible first | exact HB.out | apply zC | apply zB | apply zF | refine zE ?_ GE1191.out) | exact HB.out)))); (case aL => have := LMc34.out; omega); intro v1209 w40 ho hb hg hat; rw [← Ny1208.out] at ho; have n0_ := zA (blk_grown (g := gb1191) (o := .cells #[.int .i64 ((rd_T131 l0 x4_1).f0), .slice A1190_1 ((rd_T131 l0 x4_1).f1).length c1190_1] 131 (0, 0)) (by (with_reducible repeat (first | refine zG ?_ _ | refine zH ?_ | refine zD ?_ _)); exact BK1191.out) hg (Kd.R_ne HO_3.out BK1191.out (by decide))); have n1_ := zA (Kd.R_after (ok := (fun _ => True)) (by (with_reducible repeat (first | apply zN | apply zM | apply zO)); exact HO1207.out) hg hat); have n2_ := zA (hb); have n3_ := zA (ho); clear BK1191; clear HO1207; clear HB; clear HO_3; have BK1191 := n0_; have HO1207 := n1_; have HB := n2_; have HO1210 := n3_; clear n0_ n1_ n2_ n3_; clear ho hb hg hat; obtain ⟨Ao42, co42, eo42⟩ := Kd.R_slice HO1210.out; subst eo42) | ((with_reducible refine gate_dst (N := 62) rfl ?_); refine Kd.R_lit (Kd.int .u8) _ 5 ?hg (N := 62) ?hd (xs := ([] : List Int)) (inner := []) (ok := fun _ => True) (okp := fun _ => True) ?hr ?hp (fun _ hk => hk) trivial (Below.refl _ _) (Nat.le_refl _) (by simp) ?_; (case hd => rfl); (case hg => rfl); (case hr => first | (go_simp; done) | (go_simp; rfl)); (case hp => exact (Reps.none _ _)); intro v1212 w43 ho44 hb hg_ hnew_; clear hg_ hnew_; (first | rw [← Ny1211.out] at ho44 | (simp only [Int.reduceToNat] at ho44; rw [← Ny1211.out] at ho44)); have n0_ := zA (Kd.R_elder' (by (with_reducible repeat (first | apply zN | apply zM | apply zO)); exact HO1207.out) (Kd.R_base ho44) hb); have n1_ := zA (Kd.R_elder' (by (with_reducible repeat (first | apply zN | apply zM | apply zO)); exact HO1210.out) (Kd.R_base ho44) hb); have n2_ := zA (Kd.R_lower (Kd.R_new' (Kd.R_new' ho44 (Kd.R_lt (by (with_reducible repeat (first | apply zN | apply zM | apply zO)); exact HO1207.out))) (Kd.R_lt (by (with_reducible repeat (first | apply zN | apply zM | apply zO)); exact HO1210.out))) (zL (by repeat (first | (with_reducible first | exact HB.out | apply zC | apply zB | apply zF | refine zE ?_ GE1191.out) | exact HB.out)))); have n3_ := zA (blk_below (g := gb1191) (o := .cells #[.int .i64 ((rd_T131 l0 x4_1).f0), .slice A1190_1 ((rd_T131 l0 x4_1).f1).length c1190_1] 131 (0, 0)) (by (with_reducible repeat (first | refine zG ?_ _ | refine zH ?_ | refine zD ?_ _)); exact BK1191.out) hb); have n4_ := zA (below_step (by repeat (first | (with_reducible first | exact HB.out | apply zC | apply zB | apply zF | refine zE ?_ GE1191.out) | exact HB.out)) hb); clear HO1207; clear HO1210; clear BK1191; clear HB; have HO1207 := n0_; have HO1210 := n1_; have HO1213 := n2_; have BK1191 := n3_; have HB := n4_; clear n0_ n1_ n2_ n3_ n4_; clear hb ho44))
          go_ret
          exact ⟨_, by first | rfl | (simp [errW_none, errW_some] <;> rfl) | (simp [*, errW_none, errW_some] <;> rfl), by (with_reducible repeat (first | apply zN | apply zM | apply zO)); exact zP HO1213.out (fun _ hk => trivial), by repeat (first | (with_reducible first | exact HB.out | apply zC | apply zB | apply zF | refine zE ?_ GE1191.out) | exact HB.out)⟩
         ·rw [if_neg c35] at H
          have c35b0 : decide (60000 < (y1208.length : Int)) = false := decide_eq_false c35
          have c35b1 : decide (60000 < y1208.length) = false := decide_eq_false (by omega)
          clear c35
          have H' := zA H
          clear H
          have p1190 : 0 ≤ (x4_1 : Int) := zI (by first | (with_reducible assumption) | assumption)
          have q1190 : x4_1 < (l0.length : Int) := zI (by first | (with_reducible assumption) | assumption)
          obtain ⟨ad1190, A1190_1, c1190_1, e1190, hx1190_0, hx1190_1, hl1190_1, hi1190_1⟩ := at_T131 HR0.out x4_1 p1190 q1190
          cases e1190
          replace hx1190_0 := (HB.out.cell (World.block_lt_of_cell? w _ hx1190_0)).trans hx1190_0
          replace hx1190_1 := (HB.out.cell (World.block_lt_of_cell? w _ hx1190_1)).trans hx1190_1
          have HR1190_1 := zA hi1190_1
          have HC1190_1 := zA hl1190_1
          clear hi1190_1 hl1190_1
          replace p1190 := eq_true p1190
          replace q1190 := eq_true q1190
          go_wp2_with (first | ((with_reducible refine gate_dst (N := 5) rfl ?_); refine box_event ?hg (N := 5) ?hd (cs := #[.int .i64 0, .slice none 0 0]) (t := 131) ?hr ?_; (case hd => rfl); (case hg => rfl); (case hr => first | (go_simp; done) | (go_simp; rfl)); intro gb1191 hg w45 hbox hb; have n0_ := zA (Kd.R_below (by (with_reducible repeat (first | apply zN | apply zM | apply zO)); exact HO_3.out) hb); have n1_ := zA (below_step (by repeat (first | (with_reducible first | exact HB.out | apply zC | apply zB | apply zF) | exact HB.out)) hb); have n2_ := zA (hbox); have n3_ := zA ((by rw [hg]; exact (zL (by repeat (first | (with_reducible first | exact HB.out | apply zC | apply zB | apply zF) | exact HB.out))) : w.heap.size ≤ gb1191)); have n4_ := zA ((by rw [hg]; exact (zL (by repeat (first | (with_reducible first | exact HB.out | apply zC | apply zB | apply zF) | exact HB.out))) : w.heap.size ≤ gb1191)); clear HO_3; clear HB; have HO_3 := n0_; have HB := n1_; have BK1191 := n2_; have GW1191 := n3_; have GE1191 := n4_; clear n0_ n1_ n2_ n3_ n4_; clear hb hbox hg; have hcz46_0 : w45.cell? ⟨gb1191, 0, none⟩ = some (.int .i64 0) := (zK BK1191.out 0).trans rfl; have hcz46_1 : w45.cell? ⟨gb1191, 1, none⟩ = some (.slice none 0 0) := (zK BK1191.out 1).trans rfl; have hfz46_0 := zJ BK1191.out 0; have hfz46_1 := zJ BK1191.out 1) | ((with_reducible refine gate_callee (f := 132) rfl ?_); refine goesL_ (some 23) rfl rfl Try.func132 (by kernel_rfl) rfl #[.int .i64 ((rd_T131 l0 x4_1).f0)] rfl (by (try simp only [zU, zV, zW]); first | done | rfl | (simp only [zR, zQ]; rfl)) ?_; (with_reducible refine (spec_l02Kind.calls ((rd_T131 l0 x4_1).f0) t1192 _ A8.out).mono ?_); rintro e w' ⟨rfl, ⟨nd, rfl⟩⟩; refine ⟨_, rfl, ?_⟩) | ((with_reducible refine gate_dst (N := 57) rfl ?_); refine Kd.R_lit (Kd.int .u8) _ 5 ?hg (N := 57) ?hd (xs := ([255, ((rd_T131 l0 x4_1).f0) % 256] : List Int)) (inner := [.int .u8 255, .int .u8 (((rd_T131 l0 x4_1).f0) % 256)]) (ok := fun _ => True) (okp := fun _ => True) ?hr ?hp (fun _ hk => hk) trivial (Below.refl _ _) (Nat.le_refl _) (by simp) ?_; (case hd => rfl); (case hg => rfl); (case hr => first | (go_simp; done) | (go_simp; rfl)); (case hp => exact (Reps.one (show Kd.M (Kd.int .u8) _ _ _ 255 [.int .u8 255] from rfl) (Reps.one (show Kd.M (Kd.int .u8) _ _ _ (((rd_T131 l0 x4_1).f0) % 256) [.int .u8 (((rd_T131 l0 x4_1).f0) % 256)] from rfl) (Reps.none _ _)))); intro v1206 w47 ho48 hb hg_ hnew_; clear hg_ hnew_; (first | rw [← Ny1205.out] at ho48 | (simp only [Int.reduceToNat] at ho48; rw [← Ny1205.out] at ho48)); have n0_ := zA (Kd.R_elder' (by (with_reducible repeat (first | apply zN | apply zM | apply zO)); exact (zP (Kd.R_far (p := ⟨gb1191, 1, none⟩) (Kd.R_far (p := ⟨gb1191, 0, none⟩) (zY HO_3.out BK1191.out (by decide)) (fun _ hk => hk.2) (.int .i64 ((rd_T131 l0 x4_1).f0))) (fun _ hk => hk.2) (.slice A1190_1 ((rd_T131 l0 x4_1).f1).length c1190_1)) (fun _ h_ => h_.1))) (Kd.R_base ho48) hb); have n1_ := zA (Kd.R_lower (Kd.R_new' ho48 (Kd.R_lt (by (with_reducible repeat (first | apply zN | apply zM | apply zO)); exact (zP (Kd.R_far (p := ⟨gb1191, 1, none⟩) (Kd.R_far (p := ⟨gb1191, 0, none⟩) (zY HO_3.out BK1191.out (by decide)) (fun _ hk => hk.2) (.int .i64 ((rd_T131 l0 x4_1).f0))) (fun _ hk => hk.2) (.slice A1190_1 ((rd_T131 l0 x4_1).f1).length c1190_1)) (fun _ h_ => h_.1))))) (zL (by repeat (first | (with_reducible first | exact HB.out | apply zC | apply zB | apply zF | refine zE ?_ GE1191.out) | exact HB.out)))); have n2_ := zA (blk_below (g := gb1191) (o := .cells #[.int .i64 ((rd_T131 l0 x4_1).f0), .slice A1190_1 ((rd_T131 l0 x4_1).f1).length c1190_1] 131 (0, 0)) (by (with_reducible repeat (first | refine zG ?_ _ | refine zH ?_ | refine zD ?_ _)); refine blk_put (cs := #[.int .i64 ((rd_T131 l0 x4_1).f0), .slice none 0 0]) ?_ 1 _ rfl; (with_reducible repeat (first | refine zG ?_ _ | refine zH ?_ | refine zD ?_ _)); refine blk_put (cs := #[.int .i64 0, .slice none 0 0]) ?_ 0 _ rfl; (with_reducible repeat (first | refine zG ?_ _ | refine zH ?_ | refine zD ?_ _)); exact BK1191.out) hb); have n3_ := zA (below_step (by repeat (first | (with_reducible first | exact HB.out | apply zC | apply zB | apply zF | refine zE ?_ GE1191.out) | exact HB.out)) hb); clear HO_3; clear BK1191; clear HB; have HO_3 := n0_; have HO1207 := n1_; have BK1191 := n2_; have HB := n3_; clear n0_ n1_ n2_ n3_; clear hb ho48; obtain ⟨Ao50, co50, eo50⟩ := Kd.R_slice HO1207.out; subst eo50) | ((with_reducible refine gate_builtin (b := .append) (xs := #[.tmp 53, .tmp 57]) rfl ?_); at_builtin; refine Kd.R_append_rows (Kd.int .u8) (w0 := w) w.heap.size rfl (.tmp 53) (.tmp 57) 23 5 (.int .u8 0) 1 rfl Try.underlying23 info5 rfl (by decide) (by omega) u3 x3_1 y1205 _ _ _ (fun k_ => some k_ ≠ (.slice Ao50 y1205.length co50 : Value).ownBlock) (fun _ => False) rfl rfl ?aO ?aR (fun _ _ h => h) (fun _ h => h.elim) ?aF ?aB ?aS ?aL ?_; (case aR => repeat (first | exact (yK HO1207.out).2.2 | (with_reducible refine yN ?_ _) | (with_reducible refine yL ?_ _) | (with_reducible refine yM ?_))); (case aB => exact (by repeat (first | (with_reducible first | exact HB.out | apply zC | apply zB | apply zF | refine zE ?_ GE1191.out) | exact HB.out))); (case aF => exact (fun k_ hk => Kd.fresh' (Kd.R_lt (by (with_reducible repeat (first | apply zN | apply zM | apply zO)); exact HO1207.out)) k_ hk)); (case aO => exact (by (with_reducible repeat (first | apply zN | apply zM | apply zO)); exact zP HO_3.out (fun _ hk => hk.2))); (case aS => exact (zL (by repeat (first | (with_reducible first | exact HB.out | apply zC | apply zB | apply zF | refine zE ?_ GE1191.out) | exact HB.out)))); (case aL => have := LMc34.out; omega); intro v1209 w49 ho hb hg hat; rw [← Ny1208.out] at ho; have n0_ := zA (blk_grown (g := gb1191) (o := .cells #[.int .i64 ((rd_T131 l0 x4_1).f0), .slice A1190_1 ((rd_T131 l0 x4_1).f1).length c1190_1] 131 (0, 0)) (by (with_reducible repeat (first | refine zG ?_ _ | refine zH ?_ | refine zD ?_ _)); exact BK1191.out) hg (Kd.R_ne HO_3.out BK1191.out (by decide))); have n1_ := zA (Kd.R_after (ok := (fun _ => True)) (by (with_reducible repeat (first | apply zN | apply zM | apply zO)); exact HO1207.out) hg hat); have n2_ := zA (hb); have n3_ := zA (ho); clear BK1191; clear HO1207; clear HB; clear HO_3; have BK1191 := n0_; have HO1207 := n1_; have HB := n2_; have HO1210 := n3_; clear n0_ n1_ n2_ n3_; clear ho hb hg hat; obtain ⟨Ao51, co51, eo51⟩ := Kd.R_slice HO1210.out; subst eo51))
          go_roundg k1
          case measure => have := HK1.out; omega
          case rel => exact ⟨(y1208), (wrap64 (x4_1 + 1)), (by first | rfl | (simp; done) | (simp [*]; done)), H', ⟨by have := HK1.out; omega⟩, ⟨by (with_reducible repeat (first | apply zN | apply zM | apply zO)); exact zP HO1210.out (fun _ hk => trivial)⟩, ⟨by repeat (first | (with_reducible first | exact HB.out | apply zC | apply zB | apply zF | refine zE ?_ GE1191.out) | exact HB.out)⟩⟩
        ·rw [if_neg c34] at H
         exact absurd H (by simp)
       ·rw [if_neg c33] at H
        have c33b0 : (t1192 == 2) = false := beq_eq_false_iff_ne.mpr c33
        have c33b1 : (t1192 != 2) = true := bne_iff_ne.mpr c33
        replace H := Option.bind_eq_some_iff.mp H
        obtain ⟨t1214, A520, H⟩ := H
        replace H : (if x3_1.length + t1214.length < 140737488355328 then ((some (x3_1 ++ t1214 : List Int)).bind fun y1217 => (if (y1217.length : Int) > 60000 then (some (([] : List Int))) else (spec_WriteSegs.l0 k1 l0 y1217 (wrap64 (x4_1 + 1))))) else (none)) = some r := H
        have A52 := zA A520
        clear A520
        by_cases c53 : x3_1.length + t1214.length < 140737488355328
        ·rw [if_pos c53] at H
         have LMc53 := zA c53
         clear c53
         obtain ⟨y1217, hy1217⟩ : ∃ y_ : List Int, y_ = (x3_1 ++ t1214) := ⟨_, rfl⟩
         replace H : (if (y1217.length : Int) > 60000 then (some (([] : List Int))) else (spec_WriteSegs.l0 k1 l0 y1217 (wrap64 (x4_1 + 1)))) = some r := by first | (rw [hy1217]; with_reducible exact H) | (have H2_ := (zS _ _).symm.trans H; rw [hy1217]; with_reducible exact H2_) | (have H2_ := (zS _ _).symm.trans H; with_reducible exact H2_) | with_reducible exact H | (rw [hy1217]; exact H) | exact H
         have Ny1217 := zA hy1217
         clear hy1217
         by_cases c54 : (y1217.length : Int) > 60000
         ·rw [if_pos c54] at H
          have c54b0 : decide (60000 < (y1217.length : Int)) = true := zT c54
          have c54b1 : decide (60000 < y1217.length) = true := zT (by omega)
          clear c54
          obtain ⟨y1220, hy1220⟩ : ∃ y_ : List Int, y_ = (([] : List Int)) := ⟨_, rfl⟩
          replace H : (some y1220) = some r := by first | (rw [hy1220]; with_reducible exact H) | (have H2_ := (zS _ _).symm.trans H; rw [hy1220]; with_reducible exact H2_) | (have H2_ := (zS _ _).symm.trans H; with_reducible exact H2_) | with_reducible exact H | (rw [hy1220]; exact H) | exact H
          have Ny1220 := zA hy1220
          clear hy1220
          obtain rfl := Option.some.inj H
          have p1190 : 0 ≤ (x4_1 : Int) := zI (by first | (with_reducible assumption) | assumption)
          have q1190 : x4_1 < (l0.length : Int) := zI (by first | (with_reducible assumption) | assumption)
          obtain ⟨ad1190, A1190_1, c1190_1, e1190, hx1190_0, hx1190_1, hl1190_1, hi1190_1⟩ := at_T131 HR0.out x4_1 p1190 q1190
          cases e1190
          replace hx1190_0 := (HB.out.cell (World.block_lt_of_cell? w _ hx1190_0)).trans hx1190_0
          replace hx1190_1 := (HB.out.cell (World.block_lt_of_cell? w _ hx1190_1)).trans hx1190_1
          have HR1190_1 := zA hi1190_1
          have HC1190_1 := zA hl1190_1
          clear hi1190_1 hl1190_1
          replace p1190 := eq_true p1190
          replace q1190 := eq_true q1190
          go_wp2_with (first | ((with_reducible refine gate_dst (N := 5) rfl ?_); refine box_event ?hg (N := 5) ?hd (cs := #[.int .i64 0, .slice none 0 0]) (t := 131) ?hr ?_; (case hd => rfl); (case hg => rfl); (case hr => first | (go_simp; done) | (go_simp; rfl)); intro gb1191 hg w55 hbox hb; have n0_ := zA (Kd.R_below (by (with_reducible repeat (first | apply zN | apply zM | apply zO)); exact HO_3.out) hb); have n1_ := zA (below_step (by repeat (first | (with_reducible first | exact HB.out | apply zC | apply zB | apply zF) | exact HB.out)) hb); have n2_ := zA (hbox); have n3_ := zA ((by rw [hg]; exact (zL (by repeat (first | (with_reducible first | exact HB.out | apply zC | apply zB | apply zF) | exact HB.out))) : w.heap.size ≤ gb1191)); have n4_ := zA ((by rw [hg]; exact (zL (by repeat (first | (with_reducible first | exact HB.out | apply zC | apply zB | apply zF) | exact HB.out))) : w.heap.size ≤ gb1191)); clear HO_3; clear HB; have HO_3 := n0_; have HB := n1_; have BK1191 := n2_; have GW1191 := n3_; have GE1191 := n4_; clear n0_ n1_ n2_ n3_ n4_; clear hb hbox hg; have hcz56_0 : w55.cell? ⟨gb1191, 0, none⟩ = some (.int .i64 0) := (zK BK1191.out 0).trans rfl; have hcz56_1 : w55.cell? ⟨gb1191, 1, none⟩ = some (.slice none 0 0) := (zK BK1191.out 1).trans rfl; have hfz56_0 := zJ BK1191.out 0; have hfz56_1 := zJ BK1191.out 1) | ((with_reducible refine gate_callee (f := 132) rfl ?_); refine goesL_ (some 23) rfl rfl Try.func132 (by kernel_rfl) rfl #[.int .i64 ((rd_T131 l0 x4_1).f0)] rfl (by (try simp only [zU, zV, zW]); first | done | rfl | (simp only [zR, zQ]; rfl)) ?_; (with_reducible refine (spec_l02Kind.calls ((rd_T131 l0 x4_1).f0) t1192 _ A8.out).mono ?_); rintro e w' ⟨rfl, ⟨nd, rfl⟩⟩; refine ⟨_, rfl, ?_⟩) | ((with_reducible refine gate_callee (f := 171) rfl ?_); refine goesL_ (some 27) rfl rfl Try.func171 (by kernel_rfl) rfl #[.slice A1190_1 ((rd_T131 l0 x4_1).f1).length c1190_1] rfl (by (try simp only [zU, zV, zW]); first | done | rfl | (simp only [zR, zQ]; rfl)) ?_; (with_reducible refine (spec_Stuff.calls k1 _ _ ((rd_T131 l0 x4_1).f1) t1214 _ ?side1 ?side2 A52.out).mono ?_); (case side1 => exact Kd.C_below HR1190_1.out (by repeat (first | (with_reducible first | exact HB.out | apply zC | apply zB | apply zF | refine zE ?_ GE1191.out) | exact HB.out))); (case side2 => exact HC1190_1.out); rintro e w57 ⟨v1215, rfl, ho0, hb⟩; refine ⟨_, rfl, ?_⟩; have n0_ := zA (Kd.R_elder' (by (with_reducible repeat (first | apply zN | apply zM | apply zO)); exact (zP (Kd.R_far (p := ⟨gb1191, 1, none⟩) (Kd.R_far (p := ⟨gb1191, 0, none⟩) (zY HO_3.out BK1191.out (by decide)) (fun _ hk => hk.2) (.int .i64 ((rd_T131 l0 x4_1).f0))) (fun _ hk => hk.2) (.slice A1190_1 ((rd_T131 l0 x4_1).f1).length c1190_1)) (fun _ h_ => h_.1))) (Kd.R_base ho0) hb); have n1_ := zA (Kd.R_lower (Kd.R_new' ho0 (Kd.R_lt (by (with_reducible repeat (first | apply zN | apply zM | apply zO)); exact (zP (Kd.R_far (p := ⟨gb1191, 1, none⟩) (Kd.R_far (p := ⟨gb1191, 0, none⟩) (zY HO_3.out BK1191.out (by decide)) (fun _ hk => hk.2) (.int .i64 ((rd_T131 l0 x4_1).f0))) (fun _ hk => hk.2) (.slice A1190_1 ((rd_T131 l0 x4_1).f1).length c1190_1)) (fun _ h_ => h_.1))))) (zL (by repeat (first | (with_reducible first | exact HB.out | apply zC | apply zB | apply zF | refine zE ?_ GE1191.out) | exact HB.out)))); have n2_ := zA (blk_below (g := gb1191) (o := .cells #[.int .i64 ((rd_T131 l0 x4_1).f0), .slice A1190_1 ((rd_T131 l0 x4_1).f1).length c1190_1] 131 (0, 0)) (by (with_reducible repeat (first | refine zG ?_ _ | refine zH ?_ | refine zD ?_ _)); refine blk_put (cs := #[.int .i64 ((rd_T131 l0 x4_1).f0), .slice none 0 0]) ?_ 1 _ rfl; (with_reducible repeat (first | refine zG ?_ _ | refine zH ?_ | refine zD ?_ _)); refine blk_put (cs := #[.int .i64 0, .slice none 0 0]) ?_ 0 _ rfl; (with_reducible repeat (first | refine zG ?_ _ | refine zH ?_ | refine zD ?_ _)); exact BK1191.out) hb); have n3_ := zA (below_step (by repeat (first | (with_reducible first | exact HB.out | apply zC | apply zB | apply zF | refine zE ?_ GE1191.out) | exact HB.out)) hb); clear HO_3; clear BK1191; clear HB; have HO_3 := n0_; have HO1216 := n1_; have BK1191 := n2_; have HB := n3_; clear n0_ n1_ n2_ n3_; (try clear hb); (try clear hb2); (try clear hk); (try clear hi); (try clear ho0); obtain ⟨Ao59, co59, eo59⟩ := Kd.R_slice HO1216.out; subst eo59) | ((with_reducible refine gate_builtin (b := .append) (xs := #[.tmp 24, .tmp 27]) rfl ?_); at_builtin; refine Kd.R_append_rows (Kd.int .u8) (w0 := w) w.heap.size rfl (.tmp 24) (.tmp 27) 23 5 (.int .u8 0) 1 rfl Try.underlying23 info5 rfl (by decide) (by omega) u3 x3_1 t1214 _ _ _ (fun k_ => some k_ ≠ (.slice Ao59 t1214.length co59 : Value).ownBlock) (fun _ => False) rfl rfl ?aO ?aR (fun _ _ h => h) (fun _ h => h.elim) ?aF ?aB ?aS ?aL ?_; (case aR => repeat (first | exact (yK HO1216.out).2.2 | (with_reducible refine yN ?_ _) | (with_reducible refine yL ?_ _) | (with_reducible refine yM ?_))); (case aB => exact (by repeat (first | (with_reducible first | exact HB.out | apply zC | apply zB | apply zF | refine zE ?_ GE1191.out) | exact HB.out))); (case aF => exact (fun k_ hk => Kd.fresh' (Kd.R_lt (by (with_reducible repeat (first | apply zN | apply zM | apply zO)); exact HO1216.out)) k_ hk)); (case aO => exact (by (with_reducible repeat (first | apply zN | apply zM | apply zO)); exact zP HO_3.out (fun _ hk => hk.2))); (case aS => exact (zL (by repeat (first | (with_reducible first | exact HB.out | apply zC | apply zB | apply zF | refine zE ?_ GE1191.out) | exact HB.out)))); (case aL => have := LMc53.out; omega); intro v1218 w58 ho hb hg hat; rw [← Ny1217.out] at ho; have n0_ := zA (blk_grown (g := gb1191) (o := .cells #[.int .i64 ((rd_T131 l0 x4_1).f0), .slice A1190_1 ((rd_T131 l0 x4_1).f1).length c1190_1] 131 (0, 0)) (by (with_reducible repeat (first | refine zG ?_ _ | refine zH ?_ | refine zD ?_ _)); exact BK1191.out) hg (Kd.R_ne HO_3.out BK1191.out (by decide))); have n1_ := zA (Kd.R_after (ok := (fun _ => True)) (by (with_reducible repeat (first | apply zN | apply zM | apply zO)); exact HO1216.out) hg hat); have n2_ := zA (hb); have n3_ := zA (ho); clear BK1191; clear HO1216; clear HB; clear HO_3; have BK1191 := n0_; have HO1216 := n1_; have HB := n2_; have HO1219 := n3_; clear n0_ n1_ n2_ n3_; clear ho hb hg hat; obtain ⟨Ao60, co60, eo60⟩ := Kd.R_slice HO1219.out; subst eo60) | ((with_reducible refine gate_dst (N := 62) rfl ?_); refine Kd.R_lit (Kd.int .u8) _ 5 ?hg (N := 62) ?hd (xs := ([] : List Int)) (inner := []) (ok := fun _ => True) (okp := fun _ => True) ?hr ?hp (fun _ hk => hk) trivial (Below.refl _ _) (Nat.le_refl _) (by simp) ?_; (case hd => rfl); (case hg => rfl); (case hr => first | (go_simp; done) | (go_simp; rfl)); (case hp => exact (Reps.none _ _)); intro v1221 w61 ho62 hb hg_ hnew_; clear hg_ hnew_; (first | rw [← Ny1220.out] at ho62 | (simp only [Int.reduceToNat] at ho62; rw [← Ny1220.out] at ho62)); have n0_ := zA (Kd.R_elder' (by (with_reducible repeat (first | apply zN | apply zM | apply zO)); exact HO1216.out) (Kd.R_base ho62) hb); have n1_ := zA (Kd.R_elder' (by (with_reducible repeat (first | apply zN | apply zM | apply zO)); exact HO1219.out) (Kd.R_base ho62) hb); have n2_ := zA (Kd.R_lower (Kd.R_new' (Kd.R_new' ho62 (Kd.R_lt (by (with_reducible repeat (first | apply zN | apply zM | apply zO)); exact HO1216.out))) (Kd.R_lt (by (with_reducible repeat (first | apply zN | apply zM | apply zO)); exact HO1219.out))) (zL (by repeat (first | (with_reducible first | exact HB.out | apply zC | apply zB | apply zF | refine zE ?_ GE1191.out) | exact HB.out)))); have n3_ := zA (blk_below (g := gb1191) (o := .cells #[.int .i64 ((rd_T131 l0 x4_1).f0), .slice A1190_1 ((rd_T131 l0 x4_1).f1).length c1190_1] 131 (0, 0)) (by (with_reducible repeat (first | refine zG ?_ _ | refine zH ?_ | refine zD ?_ _)); exact BK1191.out) hb); have n4_ := zA (below_step (by repeat (first | (with_reducible first | exact HB.out | apply zC | apply zB | apply zF | refine zE ?_ GE1191.out) | exact HB.out)) hb); clear HO1216; clear HO1219; clear BK1191; clear HB; have HO1216 := n0_; have HO1219 := n1_; have HO1222 := n2_; have BK1191 := n3_; have HB := n4_; clear n0_ n1_ n2_ n3_ n4_; clear hb ho62))
          go_ret
          exact ⟨_, by first | rfl | (simp [errW_none, errW_some] <;> rfl) | (simp [*, errW_none, errW_some] <;> rfl), by (with_reducible repeat (first | apply zN | apply zM | apply zO)); exact zP HO1222.out (fun _ hk => trivial), by repeat (first | (with_reducible first | exact HB.out | apply zC | apply zB | apply zF | refine zE ?_ GE1191.out) | exact HB.out)⟩
         ·rw [if_neg c54] at H
          have c54b0 : decide (60000 < (y1217.length : Int)) = false := decide_eq_false c54
          have c54b1 : decide (60000 < y1217.length) = false := decide_eq_false (by omega)
          clear c54
          have H' := zA H
          clear H
          have p1190 : 0 ≤ (x4_1 : Int) := zI (by first | (with_reducible assumption) | assumption)
          have q1190 : x4_1 < (l0.length : Int) := zI (by first | (with_reducible assumption) | assumption)
          obtain ⟨ad1190, A1190_1, c1190_1, e1190, hx1190_0, hx1190_1, hl1190_1, hi1190_1⟩ := at_T131 HR0.out x4_1 p1190 q1190
          cases e1190
          replace hx1190_0 := (HB.out.cell (World.block_lt_of_cell? w _ hx1190_0)).trans hx1190_0
          replace hx1190_1 := (HB.out.cell (World.block_lt_of_cell? w _ hx1190_1)).trans hx1190_1
          have HR1190_1 := zA hi1190_1
          have HC1190_1 := zA hl1190_1
          clear hi1190_1 hl1190_1
          replace p1190 := eq_true p1190
          replace q1190 := eq_true q1190
          go_wp2_with (first | ((with_reducible refine gate_dst (N := 5) rfl ?_); refine box_event ?hg (N := 5) ?hd (cs := #[.int .i64 0, .slice none 0 0]) (t := 131) ?hr ?_; (case hd => rfl); (case hg => rfl); (case hr => first | (go_simp; done) | (go_simp; rfl)); intro gb1191 hg w63 hbox hb; have n0_ := zA (Kd.R_below (by (with_reducible repeat (first | apply zN | apply zM | apply zO)); exact HO_3.out) hb); have n1_ := zA (below_step (by repeat (first | (with_reducible first | exact HB.out | apply zC | apply zB | apply zF) | exact HB.out)) hb); have n2_ := zA (hbox); have n3_ := zA ((by rw [hg]; exact (zL (by repeat (first | (with_reducible first | exact HB.out | apply zC | apply zB | apply zF) | exact HB.out))) : w.heap.size ≤ gb1191)); have n4_ := zA ((by rw [hg]; exact (zL (by repeat (first | (with_reducible first | exact HB.out | apply zC | apply zB | apply zF) | exact HB.out))) : w.heap.size ≤ gb1191)); clear HO_3; clear HB; have HO_3 := n0_; have HB := n1_; have BK1191 := n2_; have GW1191 := n3_; have GE1191 := n4_; clear n0_ n1_ n2_ n3_ n4_; clear hb hbox hg; have hcz64_0 : w63.cell? ⟨gb1191, 0, none⟩ = some (.int .i64 0) := (zK BK1191.out 0).trans rfl; have hcz64_1 : w63.cell? ⟨gb1191, 1, none⟩ = some (.slice none 0 0) := (zK BK1191.out 1).trans rfl; have hfz64_0 := zJ BK1191.out 0; have hfz64_1 := zJ BK1191.out 1) | ((with_reducible refine gate_callee (f := 132) rfl ?_); refine goesL_ (some 23) rfl rfl Try.func132 (by kernel_rfl) rfl #[.int .i64 ((rd_T131 l0 x4_1).f0)] rfl (by (try simp only [zU, zV, zW]); first | done | rfl | (simp only [zR, zQ]; rfl)) ?_; (with_reducible refine (spec_l02Kind.calls ((rd_T131 l0 x4_1).f0) t1192 _ A8.out).mono ?_); rintro e w' ⟨rfl, ⟨nd, rfl⟩⟩; refine ⟨_, rfl, ?_⟩) | ((with_reducible refine gate_callee (f := 171) rfl ?_); refine goesL_ (some 27) rfl rfl Try.func171 (by kernel_rfl) rfl #[.slice A1190_1 ((rd_T131 l0 x4_1).f1).length c1190_1] rfl (by (try simp only [zU, zV, zW]); first | done | rfl | (simp only [zR, zQ]; rfl)) ?_; (with_reducible refine (spec_Stuff.calls k1 _ _ ((rd_T131 l0 x4_1).f1) t1214 _ ?side1 ?side2 A52.out).mono ?_); (case side1 => exact Kd.C_below HR1190_1.out (by repeat (first | (with_reducible first | exact HB.out | apply zC | apply zB | apply zF | refine zE ?_ GE1191.out) | exact HB.out))); (case side2 => exact HC1190_1.out); rintro e w65 ⟨v1215, rfl, ho0, hb⟩; refine ⟨_, rfl, ?_⟩; have n0_ := zA (Kd.R_elder' (by (with_reducible repeat (first | apply zN | apply zM | apply zO)); exact (zP (Kd.R_far (p := ⟨gb1191, 1, none⟩) (Kd.R_far (p := ⟨gb1191, 0, none⟩) (zY HO_3.out BK1191.out (by decide)) (fun _ hk => hk.2) (.int .i64 ((rd_T131 l0 x4_1).f0))) (fun _ hk => hk.2) (.slice A1190_1 ((rd_T131 l0 x4_1).f1).length c1190_1)) (fun _ h_ => h_.1))) (Kd.R_base ho0) hb); have n1_ := zA (Kd.R_lower (Kd.R_new' ho0 (Kd.R_lt (by (with_reducible repeat (first | apply zN | apply zM | apply zO)); exact (zP (Kd.R_far (p := ⟨gb1191, 1, none⟩) (Kd.R_far (p := ⟨gb1191, 0, none⟩) (zY HO_3.out BK1191.out (by decide)) (fun _ hk => hk.2) (.int .i64 ((rd_T131 l0 x4_1).f0))) (fun _ hk => hk.2) (.slice A1190_1 ((rd_T131 l0 x4_1).f1).length c1190_1)) (fun _ h_ => h_.1))))) (zL (by repeat (first | (with_reducible first | exact HB.out | apply zC | apply zB | apply zF | refine zE ?_ GE1191.out) | exact HB.out)))); have n2_ := zA (blk_below (g := gb1191) (o := .cells #[.int .i64 ((rd_T131 l0 x4_1).f0), .slice A1190_1 ((rd_T131 l0 x4_1).f1).length c1190_1] 131 (0, 0)) (by (with_reducible repeat (first | refine zG ?_ _ | refine zH ?_ | refine zD ?_ _)); refine blk_put (cs := #[.int .i64 ((rd_T131 l0 x4_1).f0), .slice none 0 0]) ?_ 1 _ rfl; (with_reducible repeat (first | refine zG ?_ _ | refine zH ?_ | refine zD ?_ _)); refine blk_put (cs := #[.int .i64 0, .slice none 0 0]) ?_ 0 _ rfl; (with_reducible repeat (first | refine zG ?_ _ | refine zH ?_ | refine zD ?_ _)); exact BK1191.out) hb); have n3_ := zA (below_step (by repeat (first | (with_reducible first | exact HB.out | apply zC | apply zB | apply zF | refine zE ?_ GE1191.out) | exact HB.out)) hb); clear HO_3; clear BK1191; clear HB; have HO_3 := n0_; have HO1216 := n1_; have BK1191 := n2_; have HB := n3_; clear n0_ n1_ n2_ n3_; (try clear hb); (try clear hb2); (try clear hk); (try clear hi); (try clear ho0); obtain ⟨Ao67, co67, eo67⟩ := Kd.R_slice HO1216.out; subst eo67) | ((with_reducible refine gate_builtin (b := .append) (xs := #[.tmp 24, .tmp 27]) rfl ?_); at_builtin; refine Kd.R_append_rows (Kd.int .u8) (w0 := w) w.heap.size rfl (.tmp 24) (.tmp 27) 23 5 (.int .u8 0) 1 rfl Try.underlying23 info5 rfl (by decide) (by omega) u3 x3_1 t1214 _ _ _ (fun k_ => some k_ ≠ (.slice Ao67 t1214.length co67 : Value).ownBlock) (fun _ => False) rfl rfl ?aO ?aR (fun _ _ h => h) (fun _ h => h.elim) ?aF ?aB ?aS ?aL ?_; (case aR => repeat (first | exact (yK HO1216.out).2.2 | (with_reducible refine yN ?_ _) | (with_reducible refine yL ?_ _) | (with_reducible refine yM ?_))); (case aB => exact (by repeat (first | (with_reducible first | exact HB.out | apply zC | apply zB | apply zF | refine zE ?_ GE1191.out) | exact HB.out))); (case aF => exact (fun k_ hk => Kd.fresh' (Kd.R_lt (by (with_reducible repeat (first | apply zN | apply zM | apply zO)); exact HO1216.out)) k_ hk)); (case aO => exact (by (with_reducible repeat (first | apply zN | apply zM | apply zO)); exact zP HO_3.out (fun _ hk => hk.2))); (case aS => exact (zL (by repeat (first | (with_reducible first | exact HB.out | apply zC | apply zB | apply zF | refine zE ?_ GE1191.out) | exact HB.out)))); (case aL => have := LMc53.out; omega); intro v1218 w66 ho hb hg hat; rw [← Ny1217.out] at ho; have n0_ := zA (blk_grown (g := gb1191) (o := .cells #[.int .i64 ((rd_T131 l0 x4_1).f0), .slice A1190_1 ((rd_T131 l0 x4_1).f1).length c1190_1] 131 (0, 0)) (by (with_reducible repeat (first | refine zG ?_ _ | refine zH ?_ | refine zD ?_ _)); exact BK1191.out) hg (Kd.R_ne HO_3.out BK1191.out (by decide))); have n1_ := zA (Kd.R_after (ok := (fun _ => True)) (by (with_reducible repeat (first | apply zN | apply zM | apply zO)); exact HO1216.out) hg hat); have n2_ := zA (hb); have n3_ := zA (ho); clear BK1191; clear HO1216; clear HB; clear HO_3; have BK1191 := n0_; have HO1216 := n1_; have HB := n2_; have HO1219 := n3_; clear n0_ n1_ n2_ n3_; clear ho hb hg hat; obtain ⟨Ao68, co68, eo68⟩ := Kd.R_slice HO1219.out; subst eo68))
          go_roundg k1
          case measure => have := HK1.out; omega
          case rel => exact ⟨(y1217), (wrap64 (x4_1 + 1)), (by first | rfl | (simp; done) | (simp [*]; done)), H', ⟨by have := HK1.out; omega⟩, ⟨by (with_reducible repeat (first | apply zN | apply zM | apply zO)); exact zP HO1219.out (fun _ hk => trivial)⟩, ⟨by repeat (first | (with_reducible first | exact HB.out | apply zC | apply zB | apply zF | refine zE ?_ GE1191.out) | exact HB.out)⟩⟩
        ·rw [if_neg c53] at H
         exact absurd H (by simp)
     ·rw [if_neg c7] at H
      exact absurd H (by simp)
    ·rw [if_neg c6] at H
     have c6b0 : decide (x4_1 < (l0.length : Int)) = false := decide_eq_false c6
     clear c6
     obtain ⟨y1181, hy1181⟩ : ∃ y_ : List Int, y_ = (([255, 254] : List Int)) := ⟨_, rfl⟩
     replace H : (if x3_1.length + y1181.length < 140737488355328 then ((some (x3_1 ++ y1181 : List Int)).bind fun y1184 => (if (y1184.length : Int) > 60000 then (some (([] : List Int))) else (some y1184))) else (none)) = some r := by first | (rw [hy1181]; with_reducible exact H) | (have H2_ := (zS _ _).symm.trans H; rw [hy1181]; with_reducible exact H2_) | (have H2_ := (zS _ _).symm.trans H; with_reducible exact H2_) | with_reducible exact H | (rw [hy1181]; exact H) | exact H
     have Ny1181 := zA hy1181
     clear hy1181
     by_cases c69 : x3_1.length + y1181.length < 140737488355328
     ·rw [if_pos c69] at H
      have LMc69 := zA c69
      clear c69
      obtain ⟨y1184, hy1184⟩ : ∃ y_ : List Int, y_ = (x3_1 ++ y1181) := ⟨_, rfl⟩
      replace H : (if (y1184.length : Int) > 60000 then (some (([] : List Int))) else (some y1184)) = some r := by first | (rw [hy1184]; with_reducible exact H) | (have H2_ := (zS _ _).symm.trans H; rw [hy1184]; with_reducible exact H2_) | (have H2_ := (zS _ _).symm.trans H; with_reducible exact H2_) | with_reducible exact H | (rw [hy1184]; exact H) | exact H
      have Ny1184 := zA hy1184
      clear hy1184
      by_cases c70 : (y1184.length : Int) > 60000
      ·rw [if_pos c70] at H
       have c70b0 : decide (60000 < (y1184.length : Int)) = true := zT c70
       have c70b1 : decide (60000 < y1184.length) = true := zT (by omega)
       clear c70
       obtain ⟨y1187, hy1187⟩ : ∃ y_ : List Int, y_ = (([] : List Int)) := ⟨_, rfl⟩
       replace H : (some y1187) = some r := by first | (rw [hy1187]; with_reducible exact H) | (have H2_ := (zS _ _).symm.trans H; rw [hy1187]; with_reducible exact H2_) | (have H2_ := (zS _ _).symm.trans H; with_reducible exact H2_) | with_reducible exact H | (rw [hy1187]; exact H) | exact H
       have Ny1187 := zA hy1187
       clear hy1187
       obtain rfl := Option.some.inj H
       go_wp2_with (first | ((with_reducible refine gate_dst (N := 64) rfl ?_); refine Kd.R_lit (Kd.int .u8) _ 5 ?hg (N := 64) ?hd (xs := ([255, 254] : List Int)) (inner := [.int .u8 255, .int .u8 254]) (ok := fun _ => True) (okp := fun _ => True) ?hr ?hp (fun _ hk => hk) trivial (Below.refl _ _) (Nat.le_refl _) (by simp) ?_; (case hd => rfl); (case hg => rfl); (case hr => first | (go_simp; done) | (go_simp; rfl)); (case hp => exact (Reps.one (show Kd.M (Kd.int .u8) _ _ _ 255 [.int .u8 255] from rfl) (Reps.one (show Kd.M (Kd.int .u8) _ _ _ 254 [.int .u8 254] from rfl) (Reps.none _ _)))); intro v1182 w71 ho72 hb hg_ hnew_; clear hg_ hnew_; (first | rw [← Ny1181.out] at ho72 | (simp only [Int.reduceToNat] at ho72; rw [← Ny1181.out] at ho72)); have n0_ := zA (Kd.R_elder' (by (with_reducible repeat (first | apply zN | apply zM | apply zO)); exact HO_3.out) (Kd.R_base ho72) hb); have n1_ := zA (Kd.R_lower (Kd.R_new' ho72 (Kd.R_lt (by (with_reducible repeat (first | apply zN | apply zM | apply zO)); exact HO_3.out))) (zL (by repeat (first | (with_reducible first | exact HB.out | apply zC | apply zB | apply zF) | exact HB.out)))); have n2_ := zA (below_step (by repeat (first | (with_reducible first | exact HB.out | apply zC | apply zB | apply zF) | exact HB.out)) hb); clear HO_3; clear HB; have HO_3 := n0_; have HO1183 := n1_; have HB := n2_; clear n0_ n1_ n2_; clear hb ho72; obtain ⟨Ao74, co74, eo74⟩ := Kd.R_slice HO1183.out; subst eo74) | ((with_reducible refine gate_builtin (b := .append) (xs := #[.tmp 63, .tmp 64]) rfl ?_); at_builtin; refine Kd.R_append_rows (Kd.int .u8) (w0 := w) w.heap.size rfl (.tmp 63) (.tmp 64) 23 5 (.int .u8 0) 1 rfl Try.underlying23 info5 rfl (by decide) (by omega) u3 x3_1 y1181 _ _ _ (fun k_ => some k_ ≠ (.slice Ao74 y1181.length co74 : Value).ownBlock) (fun _ => False) rfl rfl ?aO ?aR (fun _ _ h => h) (fun _ h => h.elim) ?aF ?aB ?aS ?aL ?_; (case aR => repeat (first | exact (yK HO1183.out).2.2 | (with_reducible refine yN ?_ _) | (with_reducible refine yL ?_ _) | (with_reducible refine yM ?_))); (case aB => exact (by repeat (first | (with_reducible first | exact HB.out | apply zC | apply zB | apply zF) | exact HB.out))); (case aF => exact (fun k_ hk => Kd.fresh' (Kd.R_lt (by (with_reducible repeat (first | apply zN | apply zM | apply zO)); exact HO1183.out)) k_ hk)); (case aO => exact (by (with_reducible repeat (first | apply zN | apply zM | apply zO)); exact zP HO_3.out (fun _ hk => hk.2))); (case aS => exact (zL (by repeat (first | (with_reducible first | exact HB.out | apply zC | apply zB | apply zF) | exact HB.out)))); (case aL => have := LMc69.out; omega); intro v1185 w73 ho hb hg hat; rw [← Ny1184.out] at ho; have n0_ := zA (Kd.R_after (ok := (fun _ => True)) (by (with_reducible repeat (first | apply zN | apply zM | apply zO)); exact HO1183.out) hg hat); have n1_ := zA (hb); have n2_ := zA (ho); clear HO1183; clear HB; clear HO_3; have HO1183 := n0_; have HB := n1_; have HO1186 := n2_; clear n0_ n1_ n2_; clear ho hb hg hat; obtain ⟨Ao75, co75, eo75⟩ := Kd.R_slice HO1186.out; subst eo75) | ((with_reducible refine gate_dst (N := 69) rfl ?_); refine Kd.R_lit (Kd.int .u8) _ 5 ?hg (N := 69) ?hd (xs := ([] : List Int)) (inner := []) (ok := fun _ => True) (okp := fun _ => True) ?hr ?hp (fun _ hk => hk) trivial (Below.refl _ _) (Nat.le_refl _) (by simp) ?_; (case hd => rfl); (case hg => rfl); (case hr => first | (go_simp; done) | (go_simp; rfl)); (case hp => exact (Reps.none _ _)); intro v1188 w76 ho77 hb hg_ hnew_; clear hg_ hnew_; (first | rw [← Ny1187.out] at ho77 | (simp only [Int.reduceToNat] at ho77; rw [← Ny1187.out] at ho77)); have n0_ := zA (Kd.R_elder' (by (with_reducible repeat (first | apply zN | apply zM | apply zO)); exact HO1183.out) (Kd.R_base ho77) hb); have n1_ := zA (Kd.R_elder' (by (with_reducible repeat (first | apply zN | apply zM | apply zO)); exact HO1186.out) (Kd.R_base ho77) hb); have n2_ := zA (Kd.R_lower (Kd.R_new' (Kd.R_new' ho77 (Kd.R_lt (by (with_reducible repeat (first | apply zN | apply zM | apply zO)); exact HO1183.out))) (Kd.R_lt (by (with_reducible repeat (first | apply zN | apply zM | apply zO)); exact HO1186.out))) (zL (by repeat (first | (with_reducible first | exact HB.out | apply zC | apply zB | apply zF) | exact HB.out)))); have n3_ := zA (below_step (by repeat (first | (with_reducible first | exact HB.out | apply zC | apply zB | apply zF) | exact HB.out)) hb); clear HO1183; clear HO1186; clear HB; have HO1183 := n0_; have HO1186 := n1_; have HO1189 := n2_; have HB := n3_; clear n0_ n1_ n2_ n3_; clear hb ho77))
       go_ret
       exact ⟨_, by first | rfl | (simp [errW_none, errW_some] <;> rfl) | (simp [*, errW_none, errW_some] <;> rfl), by (with_reducible repeat (first | apply zN | apply zM | apply zO)); exact zP HO1189.out (fun _ hk => trivial), by repeat (first | (with_reducible first | exact HB.out | apply zC | apply zB | apply zF) | exact HB.out)⟩
      ·rw [if_neg c70] at H
       have c70b0 : decide (60000 < (y1184.length : Int)) = false := decide_eq_false c70
       have c70b1 : decide (60000 < y1184.length) = false := decide_eq_false (by omega)
       clear c70
       obtain rfl := Option.some.inj H
       go_wp2_with (first | ((with_reducible refine gate_dst (N := 64) rfl ?_); refine Kd.R_lit (Kd.int .u8) _ 5 ?hg (N := 64) ?hd (xs := ([255, 254] : List Int)) (inner := [.int .u8 255, .int .u8 254]) (ok := fun _ => True) (okp := fun _ => True) ?hr ?hp (fun _ hk => hk) trivial (Below.refl _ _) (Nat.le_refl _) (by simp) ?_; (case hd => rfl); (case hg => rfl); (case hr => first | (go_simp; done) | (go_simp; rfl)); (case hp => exact (Reps.one (show Kd.M (Kd.int .u8) _ _ _ 255 [.int .u8 255] from rfl) (Reps.one (show Kd.M (Kd.int .u8) _ _ _ 254 [.int .u8 254] from rfl) (Reps.none _ _)))); intro v1182 w78 ho79 hb hg_ hnew_; clear hg_ hnew_; (first | rw [← Ny1181.out] at ho79 | (simp only [Int.reduceToNat] at ho79; rw [← Ny1181.out] at ho79)); have n0_ := zA (Kd.R_elder' (by (with_reducible repeat (first | apply zN | apply zM | apply zO)); exact HO_3.out) (Kd.R_base ho79) hb); have n1_ := zA (Kd.R_lower (Kd.R_new' ho79 (Kd.R_lt (by (with_reducible repeat (first | apply zN | apply zM | apply zO)); exact HO_3.out))) (zL (by repeat (first | (with_reducible first | exact HB.out | apply zC | apply zB | apply zF) | exact HB.out)))); have n2_ := zA (below_step (by repeat (first | (with_reducible first | exact HB.out | apply zC | apply zB | apply zF) | exact HB.out)) hb); clear HO_3; clear HB; have HO_3 := n0_; have HO1183 := n1_; have HB := n2_; clear n0_ n1_ n2_; clear hb ho79; obtain ⟨Ao81, co81, eo81⟩ := Kd.R_slice HO1183.out; subst eo81) | ((with_reducible refine gate_builtin (b := .append) (xs := #[.tmp 63, .tmp 64]) rfl ?_); at_builtin; refine Kd.R_append_rows (Kd.int .u8) (w0 := w) w.heap.size rfl (.tmp 63) (.tmp 64) 23 5 (.int .u8 0) 1 rfl Try.underlying23 info5 rfl (by decide) (by omega) u3 x3_1 y1181 _ _ _ (fun k_ => some k_ ≠ (.slice Ao81 y1181.length co81 : Value).ownBlock) (fun _ => False) rfl rfl ?aO ?aR (fun _ _ h => h) (fun _ h => h.elim) ?aF ?aB ?aS ?aL ?_; (case aR => repeat (first | exact (yK HO1183.out).2.2 | (with_reducible refine yN ?_ _) | (with_reducible refine yL ?_ _) | (with_reducible refine yM ?_))); (case aB => exact (by repeat (first | (with_reducible first | exact HB.out | apply zC | apply zB | apply zF) | exact HB.out))); (case aF => exact (fun k_ hk => Kd.fresh' (Kd.R_lt (by (with_reducible repeat (first | apply zN | apply zM | apply zO)); exact HO1183.out)) k_ hk)); (case aO => exact (by (with_reducible repeat (first | apply zN | apply zM | apply zO)); exact zP HO_3.out (fun _ hk => hk.2))); (case aS => exact (zL (by repeat (first | (with_reducible first | exact HB.out | apply zC | apply zB | apply zF) | exact HB.out)))); (case aL => have := LMc69.out; omega); intro v1185 w80 ho hb hg hat; rw [← Ny1184.out] at ho; have n0_ := zA (Kd.R_after (ok := (fun _ => True)) (by (with_reducible repeat (first | apply zN | apply zM | apply zO)); exact HO1183.out) hg hat); have n1_ := zA (hb); have n2_ := zA (ho); clear HO1183; clear HB; clear HO_3; have HO1183 := n0_; have HB := n1_; have HO1186 := n2_; clear n0_ n1_ n2_; clear ho hb hg hat; obtain ⟨Ao82, co82, eo82⟩ := Kd.R_slice HO1186.out; subst eo82))
       go_ret
       exact ⟨_, by first | rfl | (simp [errW_none, errW_some] <;> rfl) | (simp [*, errW_none, errW_some] <;> rfl), by (with_reducible repeat (first | apply zN | apply zM | apply zO)); exact zP HO1186.out (fun _ hk => trivial), by repeat (first | (with_reducible first | exact HB.out | apply zC | apply zB | apply zF) | exact HB.out)⟩
     ·rw [if_neg c69] at H
      exact absurd H (by simp)
 ·replace c3 := Bool.eq_false_iff.mpr c3
  subst c3
  have H1 : (some (([] : List Int))) = some r := by rw [if_neg (show ¬ (false = true) by decide)] at H; exact H
  clear H
  have H := H1
  clear H1
  obtain ⟨y1175, hy1175⟩ : ∃ y_ : List Int, y_ = (([] : List Int)) := ⟨_, rfl⟩
  replace H : (some y1175) = some r := by first | (rw [hy1175]; with_reducible exact H) | (have H2_ := (zS _ _).symm.trans H; rw [hy1175]; with_reducible exact H2_) | (have H2_ := (zS _ _).symm.trans H; with_reducible exact H2_) | with_reducible exact H | (rw [hy1175]; exact H) | exact H
  have Ny1175 := zA hy1175
  clear hy1175
  obtain rfl := Option.some.inj H
  go_enter Try.func143, Try.ntmps143
  go_wp2_with (first | ((with_reducible refine gate_callee (f := 170) rfl ?_); refine goesL_ (some 7) rfl rfl Try.func170 (by kernel_rfl) rfl #[.slice A0 l0.length c0] rfl (by (try simp only [zU, zV, zW]); first | done | rfl | (simp only [zR, zQ]; rfl)) ?_; (with_reducible refine (spec_SegsOk.calls k _ _ l0 false _ ?side1 ?side2 A2.out).mono ?_); (case side1 => repeat (first | exact HR0.out | (with_reducible refine yN ?_ _) | (with_reducible refine yL ?_ _) | (with_reducible refine yM ?_))); (case side2 => exact HC0.out); rintro e w' ⟨rfl, ⟨nd, rfl⟩⟩; refine ⟨_, rfl, ?_⟩) | ((with_reducible refine gate_dst (N := 9) rfl ?_); refine Kd.R_lit (Kd.int .u8) _ 5 ?hg (N := 9) ?hd (xs := ([] : List Int)) (inner := []) (ok := fun _ => True) (okp := fun _ => True) ?hr ?hp (fun _ hk => hk) trivial (Below.refl _ _) (Nat.le_refl _) (by simp) ?_; (case hd => rfl); (case hg => rfl); (case hr => first | (go_simp; done) | (go_simp; rfl)); (case hp => exact (Reps.none _ _)); intro v1176 w83 ho84 hb hg_ hnew_; clear hg_ hnew_; (first | rw [← Ny1175.out] at ho84 | (simp only [Int.reduceToNat] at ho84; rw [← Ny1175.out] at ho84)); have n0_ := zA (Kd.R_lower ho84 (zL (by repeat (first | (with_reducible first | exact HB.out | apply zC | apply zB | apply zF) | exact HB.out)))); have n1_ := zA (below_step (by repeat (first | (with_reducible first | exact HB.out | apply zC | apply zB | apply zF) | exact HB.out)) hb); clear HB; have HO1177 := n0_; have HB := n1_; clear n0_ n1_; clear hb ho84))
  go_ret
  exact ⟨_, by first | rfl | (simp [errW_none, errW_some] <;> rfl) | (simp [*, errW_none, errW_some] <;> rfl), by (with_reducible repeat (first | apply zN | apply zM | apply zO)); exact HO1177.out, by repeat (first | (with_reducible first | exact HB.out | apply zC | apply zB | apply zF) | exact HB.out)⟩
def SegsB (l : List S131) : Prop := ∀ s ∈ l, BytesL s.f1 ∧ s.f1.length ≤ 30000
theorem rdS_nat (l : List S131) (i : Nat) (h : i < l.length) : rd_T131 l (i : Int) = l[i] := by unfold rd_T131; rw [Int.toNat_natCast]; simp [h]
theorem spec_WriteSegs.l0_ev (l : List S131) (hs : SegsB l) (hl : l.length ≤ 100000) : ∀ (d i : Nat) (x : List Int), i + d = l.length → BytesL x → x.length ≤ 60000 → EvP (fun k => spec_WriteSegs.l0 k l x (i : Int)) (fun r => BytesL r ∧ r.length ≤ 60000) := by
 intro d
 induction d with
 | zero =>
  intro i x hi hx hxl
  refine EvP.step (fun _ => by rw [spec_WriteSegs.l0]) ?_
  refine EvP.ng (by omega) ?_
  refine EvP.some ?_
  refine EvP.ip (by simp; omega) ?_
  refine EvP.some ?_
  refine EvP.either (fun _ => EvP.now ⟨BytesL.nil, by simp⟩) (fun h => EvP.now ⟨hx.app ?_, by omega⟩)
  intro y hy
  simp only [List.mem_cons, List.not_mem_nil, or_false] at hy
  rcases hy with rfl | rfl <;> omega
 | succ d ih =>
  intro i x hi hx hxl
  have hlt : i < l.length := by omega
  obtain ⟨hb, hbl⟩ := hs _ (List.getElem_mem hlt)
  refine EvP.step (fun _ => by rw [spec_WriteSegs.l0]) (EvP.ip (by omega) (EvP.ip (by omega) ?_))
  rw [wrap_succ i (by omega), rdS_nat l i hlt]
  generalize l[i] = s at hb hbl ⊢
  have fin : ∀ y : List Int, BytesL y → EvP (fun k => if (y.length : Int) > 60000 then some [] else spec_WriteSegs.l0 k l y ((i + 1 : Nat) : Int)) (fun r => BytesL r ∧ r.length ≤ 60000) := fun y hy => EvP.either (fun _ => EvP.now ⟨BytesL.nil, by simp⟩) (fun h => ih (i + 1) y (by omega) hy (by omega))
  refine EvP.val (kind_val _) ?_
  refine EvP.either (fun _ => ?_) (fun _ => EvP.either (fun _ => ?_) (fun _ => ?_))
  ·have h4 : BytesL [255, s.f0 % 256, wrap64 ((s.f1.length : Int) / 256) % 256, (s.f1.length : Int) % 256] := by
    intro y hy
    simp only [List.mem_cons, List.not_mem_nil, or_false] at hy
    rcases hy with rfl | rfl | rfl | rfl <;> omega
   exact EvP.some (EvP.ip (by simp; omega) (EvP.some (EvP.ip (by simp; omega) (EvP.some (fin _ ((hx.app h4).app hb))))))
  ·have h2 : BytesL [255, s.f0 % 256] := by
    intro y hy
    simp only [List.mem_cons, List.not_mem_nil, or_false] at hy
    rcases hy with rfl | rfl <;> omega
   exact EvP.some (EvP.ip (by simp; omega) (EvP.some (fin _ (hx.app h2))))
  ·refine EvP.bind (spec_Stuff.ev s.f1 hb (by omega)) (fun r hr => ?_)
   exact EvP.ip (by omega) (EvP.some (fin _ (hx.app hr.1)))
theorem spec_WriteSegs.ev (l : List S131) (hs : SegsB l) (hl : l.length ≤ 100000) : EvP (fun k => spec_WriteSegs.f k l) (fun r => BytesL r ∧ r.length ≤ 60000) := by
 unfold spec_WriteSegs.f
 refine EvP.bind (spec_SegsOk.ev l hl) (fun b _ => ?_)
 refine EvP.either (fun _ => ?_) (fun _ => EvP.now ⟨BytesL.nil, by simp⟩)
 refine spec_WriteSegs.l0_ev l hs hl l.length 0 _ (Nat.zero_add _) ?_ (by simp)
 intro y hy
 simp only [List.mem_cons, List.not_mem_nil, or_false] at hy
 rcases hy with rfl | rfl <;> omega
end Go.Proofs.Ytcjjmfpkhhdmlaa.G


namespace Go.Proofs.Ytcjjmfpkhhdmlaa.G
open Go.RowKit Go.Proofs.YtcjjmfpkhhdmlaaW.PrintWords Go.Proofs.YtcjjmfpkhhdmlaaW.PrintLast Go.Proofs.YtcjjmfpkhhdmlaaW.PrintMore
attribute [local go_sem] max2_int min2_int max_two min_two max_three min_three max_four min_four   -- for this text's walks alone
mutual
def spec_l02DrawSegs.l0 : Nat → List (S131) → Int → Int → List Int → Int → Int → Option ((List (S131)) × Int × Int)
 | 0, _, _, _, _, _, _ => none
 | k + 1, x3, x4, x5, x1000, x1001, x1002 => if x5 > 0 then ((spec_l01Cur_pick.f x1000 x1001 x1002 3).bind fun bt1251 => ((spec_l02Fits.f x4 (wrap64 (1 + bt1251.1))).bind fun t1254 => (if t1254 = true then (spec_l02DrawSegs.j1 k x3 x5 (wrap64 (1 + bt1251.1)) x1000 bt1251.2.1 bt1251.2.2) else (spec_l02DrawSegs.j1 k x3 x5 1 x1000 bt1251.2.1 bt1251.2.2)))) else ((spec_l01Cur_pick.f x1000 x1001 x1002 24).bind fun bt1287 => (if bt1287.1 = 0 then (if (x3.length : Int) > 0 then ((spec_l01Cur_pick.f x1000 bt1287.2.1 bt1287.2.2 (x3.length : Int)).bind fun bt1290 => ((some (([0, 240, 248, 254, 255, 256, (-1), 247, 239] : List Int) : List Int)).bind fun y1293 => ((spec_l01Cur_pick.f x1000 bt1290.2.1 bt1290.2.2 9).bind fun bt1296 => (if 0 ≤ bt1296.1 then (if bt1296.1 < (y1293.length : Int) then (if 0 ≤ bt1290.1 then (if bt1290.1 < (x3.length : Int) then (some ((x3.set (bt1290.1 : Int).toNat (⟨rd y1293 bt1296.1, (rd_T131 x3 bt1290.1).f1⟩ : S131)), bt1296.2.1, bt1296.2.2)) else (none)) else (none)) else (none)) else (none))))) else (some (x3, bt1287.2.1, bt1287.2.2))) else (if bt1287.1 = 1 then (spec_l02DrawSegs.l1 k x3 x1000 bt1287.2.1 bt1287.2.2) else (if bt1287.1 = 2 then ((spec_l01Cur_pick.f x1000 bt1287.2.1 bt1287.2.2 2).bind fun bt1307 => (if 0 ≤ (wrap64 (20000 + bt1307.1)) then (if (wrap64 (20000 + bt1307.1) : Int).toNat ≤ 281474976710656 then (if x3.length < 4398046511104 then (some ((x3 ++ [(⟨9, (List.replicate (wrap64 (20000 + bt1307.1) : Int).toNat 0)⟩ : S131)]), bt1307.2.1, bt1307.2.2)) else (none)) else (none)) else (none))) else (some (x3, bt1287.2.1, bt1287.2.2))))))
def spec_l02DrawSegs.j1 : Nat → List (S131) → Int → Int → List Int → Int → Int → Option ((List (S131)) × Int × Int)
 | 0, _, _, _, _, _, _ => none
 | k + 1, x3, x5, x6, x1000, x1001, x1002 => if x6 = 1 then ((spec_l01Cur_pick.f x1000 x1001 x1002 239).bind fun bt1256 => ((spec_l01DrawBytes.f k x1000 bt1256.2.1 bt1256.2.2 9).bind fun bt1259 => (if x3.length < 4398046511104 then (spec_l02DrawSegs.l0 k (x3 ++ [(⟨wrap64 (1 + bt1256.1), bt1259.1⟩ : S131)]) x6 (wrap64 (x5 - 1)) x1000 bt1259.2.1 bt1259.2.2) else (none)))) else (if x6 = 2 then ((spec_l01Cur_pick.f x1000 x1001 x1002 8).bind fun bt1267 => (if x3.length < 4398046511104 then (spec_l02DrawSegs.l0 k (x3 ++ [(⟨wrap64 (240 + bt1267.1), ([] : List Int)⟩ : S131)]) x6 (wrap64 (x5 - 1)) x1000 bt1267.2.1 bt1267.2.2) else (none))) else ((spec_l01DrawBytes.f k x1000 x1001 x1002 9).bind fun bt1273 => ((spec_l01Cur_pick.f x1000 bt1273.2.1 bt1273.2.2 256).bind fun bt1278 => (if bt1273.1.length < 140737488355328 then (if x3.length < 4398046511104 then (spec_l02DrawSegs.l0 k (x3 ++ [(⟨0, (bt1273.1 ++ [(bt1278.1) % 256])⟩ : S131)]) x6 (wrap64 (x5 - 1)) x1000 bt1278.2.1 bt1278.2.2) else (none)) else (none)))))
def spec_l02DrawSegs.l1 : Nat → List (S131) → List Int → Int → Int → Option ((List (S131)) × Int × Int)
 | 0, _, _, _, _ => none
 | k + 1, x3, x1000, x1001, x1002 => (spec_l01Cur_pick.f x1000 x1001 x1002 2).bind fun bt1301 => (if (x3.length : Int) < (wrap64 (300 + bt1301.1)) then (if x3.length < 4398046511104 then (spec_l02DrawSegs.l1 k (x3 ++ [(⟨7, ([] : List Int)⟩ : S131)]) x1000 bt1301.2.1 bt1301.2.2) else (none)) else (some (x3, bt1301.2.1, bt1301.2.2)))
end
def spec_l02DrawSegs.f (k : Nat) (s0_0 : List Int) (s0_1 : Int) (s0_2 : Int) : Option ((List (S131)) × Int × Int) := (spec_l01Cur_size.f s0_0 s0_1 s0_2 12).bind fun bt1248 => (spec_l02DrawSegs.l0 k (([] : List (S131))) 0 bt1248.1 s0_0 bt1248.2.1 bt1248.2.2)
set_option maxHeartbeats 8000000 in
set_option maxRecDepth 100000 in
theorem spec_l02DrawSegs.calls (k : Nat) (g : Nat) (s0_0 : List Int) (s0_1 : Int) (s0_2 : Int) (r1 : List (S131)) (r2 : Int) (r3 : Int) (w0 w : World) (hI : IsS150 w0 w g s0_0 s0_1 s0_2) (hB : Below w0.heap.size w0 w) (h : spec_l02DrawSegs.f k s0_0 s0_1 s0_2 = some (r1, r2, r3)) :
  Calls Try.prog 144 #[.pointer (some ⟨g, 0, none⟩)] w fun e w' => ∃ v0_ : Value, e = .returned (v0_) ∧ Kd.S k131 131 w' w.heap.size (fun _ => True) v0_ r1 ∧ IsS150 w0 w' g s0_0 r2 r3 ∧ Below w0.heap.size w0 w' ∧ KeepBut w w' g none := by
 have hu131 := Try.underlying131
 have HI0 := zA hI
 have HK := zA (KeepBut.refl w g none)
 have HL := zA hB.size
 clear hI
 have HW0 := zA hB.size
 have HB := zA hB
 clear hB
 have H : ((spec_l01Cur_size.f s0_0 s0_1 s0_2 12).bind fun bt1248 => (spec_l02DrawSegs.l0 k (([] : List (S131))) 0 bt1248.1 s0_0 bt1248.2.1 bt1248.2.2)) = some (r1, r2, r3) := h
 clear h
 obtain ⟨y1245, hy1245⟩ : ∃ y_ : List (S131), y_ = (([] : List (S131))) := ⟨_, rfl⟩
 replace H : ((spec_l01Cur_size.f s0_0 s0_1 s0_2 12).bind fun bt1248 => (spec_l02DrawSegs.l0 k y1245 0 bt1248.1 s0_0 bt1248.2.1 bt1248.2.2)) = some (r1, r2, r3) := by first | (rw [hy1245]; with_reducible exact H) | (have H2_ := (zS _ _).symm.trans H; rw [hy1245]; with_reducible exact H2_) | (have H2_ := (zS _ _).symm.trans H; with_reducible exact H2_) | with_reducible exact H | (rw [hy1245]; exact H) | exact H
 have Ny1245 := zA hy1245
 clear hy1245
 replace H := Option.bind_eq_some_iff.mp H
 obtain ⟨⟨t1248, t1249, t1250⟩, A20, H⟩ := H
 replace H : (spec_l02DrawSegs.l0 k y1245 0 t1248 s0_0 t1249 t1250) = some (r1, r2, r3) := H
 have A2 := zA A20
 clear A20
 have H' := zA H
 clear H
 go_enter Try.func144, Try.ntmps144
 go_wp2_with (first | ((with_reducible refine gate_dst (N := 9) rfl ?_); refine Kd.S_lit k131 _ 131 ?hg (N := 9) ?hd (xs := ([] : List (S131))) (inner := []) (ok := fun _ => True) (okp := fun _ => True) ?hr ?hp (fun _ hk => hk) trivial (Below.refl _ _) (Nat.le_refl _) (by simp) ?_; (case hd => rfl); (case hg => rfl); (case hr => first | (go_simp; done) | (go_simp; rfl)); (case hp => exact (Reps.none _ _)); intro v1246 w3 ho4 hb hg_ hnew_; clear hg_ hnew_; (first | rw [← Ny1245.out] at ho4 | (simp only [Int.reduceToNat] at ho4; rw [← Ny1245.out] at ho4)); have n0_ := zA (Kd.S_lower ho4 (keep_size (w := w) (g := g) (row := none) (by repeat (first | (with_reducible first | exact HK.out | apply zZ | apply yA | apply yB | apply yC) | exact HK.out)))); have n1_ := zA (IsS150.below (by repeat (first | (with_reducible first | exact HI0.out | apply IsS150.alloc | apply IsS150.drewN | apply IsS150.drew | apply IsS150.set_1 | apply IsS150.set_2) | exact HI0.out)) hb); have n2_ := zA (KeepBut.trans (by repeat (first | (with_reducible first | exact HK.out | apply zZ | apply yA | apply yB | apply yC) | exact HK.out)) (KeepBut.of_below hb g none) (.inl rfl)); have n3_ := zA (below_step (by repeat (first | (with_reducible first | exact HB.out | apply zC | apply zB | apply zF | refine zE ?_ (IsS150.ge HI0.out)) | exact HB.out)) hb); clear HI0; clear HK; clear HB; have HO1247 := n0_; have HI0 := n1_; have HK := n2_; have HB := n3_; clear n0_ n1_ n2_ n3_; clear hb ho4) | ((with_reducible refine gate_callee (f := 153) rfl ?_); refine goesL_ (some 11) rfl rfl Try.func153 (by kernel_rfl) rfl #[.pointer (some ⟨g, 0, none⟩), .int .i64 12] rfl (by (try simp only [zU, zV, zW]); first | done | rfl | (simp only [zR, zQ]; rfl)) ?_; (with_reducible refine (spec_l01Cur_size.calls g s0_0 s0_1 s0_2 12 t1248 t1249 t1250 w0 _ ?side1 ?side2 A2.out).mono ?_); (case side1 => repeat (first | (with_reducible first | exact HI0.out | apply IsS150.alloc | apply IsS150.drewN | apply IsS150.drew | apply IsS150.set_1 | apply IsS150.set_2) | exact HI0.out)); (case side2 => repeat (first | (with_reducible first | exact HB.out | apply zC | apply zB | apply zF | refine zE ?_ (IsS150.ge HI0.out)) | exact HB.out)); rintro e w5 ⟨rfl, hi, hb, hk⟩; refine ⟨_, rfl, ?_⟩; have n0_ := zA (yH (Kd.S_keep (IsS150.apartS (show IsS150 w0 _ g s0_0 s0_1 s0_2 from by repeat (first | (with_reducible first | exact HI0.out | apply IsS150.alloc | apply IsS150.drewN | apply IsS150.drew | apply IsS150.set_1 | apply IsS150.set_2) | exact HI0.out)) (by (with_reducible repeat (first | apply yE | apply yF | apply yG)); exact HO1247.out) (by decide)) hk (fun _ h => h.2)) (fun _ h => h.1)); have n1_ := zA (KeepBut.trans (by repeat (first | (with_reducible first | exact HK.out | apply zZ | apply yA | apply yB | apply yC) | exact HK.out)) hk (.inl rfl)); have n2_ := zA (hb); have n3_ := zA (hi); clear HO1247; clear HK; clear HB; clear HI0; have HO1247 := n0_; have HK := n1_; have HB := n2_; have HI0 := n3_; clear n0_ n1_ n2_ n3_; (try clear hb); (try clear hb2); (try clear hk); (try clear hi)))
 go_loopg [3, 4, 5] k (fun kq v3 v4 v5 w' => ∃ (x3_1 : List (S131)) (x4_1 : Int) (x5_1 : Int) (x1001_1 : Int) (x1002_1 : Int), v4 = .int .i64 x4_1 ∧ v5 = .int .i64 x5_1 ∧ Aside0 (spec_l02DrawSegs.l0 kq x3_1 x4_1 x5_1 s0_0 x1001_1 x1002_1 = some (r1, r2, r3)) ∧ Aside0 (kq ≤ k) ∧ Aside0 (Kd.S k131 131 w' w.heap.size (fun _ => True) v3 x3_1) ∧ Aside0 (IsS150 w0 w' g s0_0 x1001_1 x1002_1) ∧ Aside0 (KeepBut w w' g none) ∧ Aside0 (Below w0.heap.size w0 w'))
 case atStart => exact ⟨(y1245), (0), (t1248), (t1249), (t1250), (by first | rfl | (simp; done) | (simp [*]; done)), (by first | rfl | (simp; done) | (simp [*]; done)), H', ⟨Nat.le_refl _⟩, ⟨by (with_reducible repeat (first | apply yE | apply yF | apply yG)); exact HO1247.out⟩, ⟨by repeat (first | (with_reducible first | exact HI0.out | apply IsS150.alloc | apply IsS150.drewN | apply IsS150.drew | apply IsS150.set_1 | apply IsS150.set_2) | exact HI0.out)⟩, ⟨by repeat (first | (with_reducible first | exact HK.out | apply zZ | apply yA | apply yB | apply yC) | exact HK.out)⟩, ⟨by repeat (first | (with_reducible first | exact HB.out | apply zC | apply zB | apply zF | refine zE ?_ (IsS150.ge HI0.out)) | exact HB.out)⟩⟩
 case round =>
  clear H'
  try clear c1
  try clear p2
  obtain ⟨x3_1, x4_1, x5_1, x1001_1, x1002_1, rfl, rfl, HA, HK1, HO_3, HI0, HK, HB⟩ := hrel
  cases gk with
  | zero => exact absurd HA.out (by simp [spec_l02DrawSegs.l0])
  | succ k1 =>
   have H := HA.out
   clear HA
   simp only [spec_l02DrawSegs.l0] at H
   by_cases c6 : x5_1 > 0
   ·rw [if_pos c6] at H
    have c6b0 : decide (0 < x5_1) = true := zT c6
    clear c6
    replace H := Option.bind_eq_some_iff.mp H
    obtain ⟨⟨t1251, t1252, t1253⟩, A70, H⟩ := H
    replace H : ((spec_l02Fits.f x4_1 (wrap64 (1 + t1251))).bind fun t1254 => (if t1254 = true then (spec_l02DrawSegs.j1 k1 x3_1 x5_1 (wrap64 (1 + t1251)) s0_0 t1252 t1253) else (spec_l02DrawSegs.j1 k1 x3_1 x5_1 1 s0_0 t1252 t1253))) = some (r1, r2, r3) := H
    have A7 := zA A70
    clear A70
    replace H := Option.bind_eq_some_iff.mp H
    obtain ⟨t1254, A80, H⟩ := H
    replace H : (if t1254 = true then (spec_l02DrawSegs.j1 k1 x3_1 x5_1 (wrap64 (1 + t1251)) s0_0 t1252 t1253) else (spec_l02DrawSegs.j1 k1 x3_1 x5_1 1 s0_0 t1252 t1253)) = some (r1, r2, r3) := H
    have A8 := zA A80
    clear A80
    have HC9 := zA H
    clear H
    go_upto_if 22 with (first | ((with_reducible refine gate_callee (f := 85) rfl ?_); refine goesL_ (some 17) rfl rfl Try.func85 (by kernel_rfl) rfl #[.pointer (some ⟨g, 0, none⟩), .int .i64 3] rfl (by (try simp only [zU, zV, zW]); first | done | rfl | (simp only [zR, zQ]; rfl)) ?_; (with_reducible refine (spec_l01Cur_pick.calls g s0_0 x1001_1 x1002_1 3 t1251 t1252 t1253 w0 _ ?side1 ?side2 A7.out).mono ?_); (case side1 => repeat (first | (with_reducible first | exact HI0.out | apply IsS150.alloc | apply IsS150.drewN | apply IsS150.drew | apply IsS150.set_1 | apply IsS150.set_2) | exact HI0.out)); (case side2 => repeat (first | (with_reducible first | exact HB.out | apply zC | apply zB | apply zF | refine zE ?_ (IsS150.ge HI0.out)) | exact HB.out)); rintro e w10 ⟨rfl, hi, hb, hk⟩; refine ⟨_, rfl, ?_⟩; have n0_ := zA (yH (Kd.S_keep (IsS150.apartS (show IsS150 w0 _ g s0_0 x1001_1 x1002_1 from by repeat (first | (with_reducible first | exact HI0.out | apply IsS150.alloc | apply IsS150.drewN | apply IsS150.drew | apply IsS150.set_1 | apply IsS150.set_2) | exact HI0.out)) (by (with_reducible repeat (first | apply yE | apply yF | apply yG)); exact HO_3.out) (by decide)) hk (fun _ h => h.2)) (fun _ h => h.1)); have n1_ := zA (KeepBut.trans (by repeat (first | (with_reducible first | exact HK.out | apply zZ | apply yA | apply yB | apply yC) | exact HK.out)) hk (.inl rfl)); have n2_ := zA (hb); have n3_ := zA (hi); clear HO_3; clear HK; clear HB; clear HI0; have HO_3 := n0_; have HK := n1_; have HB := n2_; have HI0 := n3_; clear n0_ n1_ n2_ n3_; (try clear hb); (try clear hb2); (try clear hk); (try clear hi)) | ((with_reducible refine gate_callee (f := 163) rfl ?_); refine goesL_ (some 21) rfl rfl Try.func163 (by kernel_rfl) rfl #[.int .i64 x4_1, .int .i64 (wrap64 (1 + t1251))] rfl (by (try simp only [zU, zV, zW]); first | done | rfl | (simp only [zR, zQ]; rfl)) ?_; (with_reducible refine (spec_l02Fits.calls x4_1 (wrap64 (1 + t1251)) t1254 _ A8.out).mono ?_); rintro e w' ⟨rfl, ⟨nd, rfl⟩⟩; refine ⟨_, rfl, ?_⟩))
    (try simp only [Act.put, List.setIfInBounds_toArray, List.set_cons_zero, List.set_cons_succ])
    go_cut [6] (fun v6 wc => ∃ (kq : Nat) (x6_8 : Int), v6 = .int .i64 x6_8 ∧ Aside0 (spec_l02DrawSegs.j1 kq x3_1 x5_1 x6_8 s0_0 t1252 t1253 = some (r1, r2, r3)) ∧ Aside0 (kq ≤ k1) ∧ Aside0 (Kd.S k131 131 wc w.heap.size (fun _ => True) u3 x3_1) ∧ Aside0 (IsS150 w0 wc g s0_0 t1252 t1253) ∧ Aside0 (KeepBut w wc g none) ∧ Aside0 (Below w0.heap.size w0 wc))
    case first =>
     have H := HC9.out
     clear HC9
     by_cases c11 : t1254 = true
     ·subst c11
      have H1 : (spec_l02DrawSegs.j1 k1 x3_1 x5_1 (wrap64 (1 + t1251)) s0_0 t1252 t1253) = some (r1, r2, r3) := by rw [if_pos rfl] at H; exact H
      clear H
      have H := H1
      clear H1
      have H' := zA H
      clear H
      go_wp2
      go_meet
      case rel => exact ⟨_, (wrap64 (1 + t1251)), (by first | rfl | (simp; done) | (simp [*]; done)), H', ⟨by have := HK1.out; first | omega | exact Nat.le_refl _⟩, ⟨by (with_reducible repeat (first | apply yE | apply yF | apply yG)); exact HO_3.out⟩, ⟨by repeat (first | (with_reducible first | exact HI0.out | apply IsS150.alloc | apply IsS150.drewN | apply IsS150.drew | apply IsS150.set_1 | apply IsS150.set_2) | exact HI0.out)⟩, ⟨by repeat (first | (with_reducible first | exact HK.out | apply zZ | apply yA | apply yB | apply yC) | exact HK.out)⟩, ⟨by repeat (first | (with_reducible first | exact HB.out | apply zC | apply zB | apply zF | refine zE ?_ (IsS150.ge HI0.out)) | exact HB.out)⟩⟩
     ·replace c11 := Bool.eq_false_iff.mpr c11
      subst c11
      have H1 : (spec_l02DrawSegs.j1 k1 x3_1 x5_1 1 s0_0 t1252 t1253) = some (r1, r2, r3) := by rw [if_neg (show ¬ (false = true) by decide)] at H; exact H
      clear H
      have H := H1
      clear H1
      have H' := zA H
      clear H
      go_wp2
      go_meet
      case rel => exact ⟨_, (1), (by first | rfl | (simp; done) | (simp [*]; done)), H', ⟨by have := HK1.out; first | omega | exact Nat.le_refl _⟩, ⟨by (with_reducible repeat (first | apply yE | apply yF | apply yG)); exact HO_3.out⟩, ⟨by repeat (first | (with_reducible first | exact HI0.out | apply IsS150.alloc | apply IsS150.drewN | apply IsS150.drew | apply IsS150.set_1 | apply IsS150.set_2) | exact HI0.out)⟩, ⟨by repeat (first | (with_reducible first | exact HK.out | apply zZ | apply yA | apply yB | apply yC) | exact HK.out)⟩, ⟨by repeat (first | (with_reducible first | exact HB.out | apply zC | apply zB | apply zF | refine zE ?_ (IsS150.ge HI0.out)) | exact HB.out)⟩⟩
    case rest =>
     clear HC9
     try clear c1
     try clear p2
     try clear c6
     try clear c6b0
     try clear p6
     try clear c8
     try clear c11
     try clear p2
     obtain ⟨kq, x6_8, rfl, HA, HJ8, HO_3, HI0, HK, HB⟩ := hcut
     cases kq with
     | zero => exact absurd HA.out (by simp [spec_l02DrawSegs.j1])
     | succ kj8 =>
      have H := HA.out
      clear HA
      simp only [spec_l02DrawSegs.j1] at H
      by_cases c12 : x6_8 = 1
      ·rw [if_pos c12] at H
       have c12b0 : (x6_8 == 1) = true := beq_iff_eq.mpr c12
       have c12b1 : (x6_8 != 1) = false := bne_eq_false_iff_eq.mpr c12
       clear c12
       replace H := Option.bind_eq_some_iff.mp H
       obtain ⟨⟨t1256, t1257, t1258⟩, A130, H⟩ := H
       replace H : ((spec_l01DrawBytes.f kj8 s0_0 t1257 t1258 9).bind fun bt1259 => (if x3_1.length < 4398046511104 then (spec_l02DrawSegs.l0 kj8 (x3_1 ++ [(⟨wrap64 (1 + t1256), bt1259.1⟩ : S131)]) x6_8 (wrap64 (x5_1 - 1)) s0_0 bt1259.2.1 bt1259.2.2) else (none))) = some (r1, r2, r3) := H
       have A13 := zA A130
       clear A130
       replace H := Option.bind_eq_some_iff.mp H
       obtain ⟨⟨t1259, t1262, t1263⟩, A140, H⟩ := H
       replace H : (if x3_1.length < 4398046511104 then (spec_l02DrawSegs.l0 kj8 (x3_1 ++ [(⟨wrap64 (1 + t1256), t1259⟩ : S131)]) x6_8 (wrap64 (x5_1 - 1)) s0_0 t1262 t1263) else (none)) = some (r1, r2, r3) := H
       have A14 := zA A140
       clear A140
       by_cases c15 : x3_1.length < 4398046511104
       ·rw [if_pos c15] at H
        have LMc15 := zA c15
        clear c15
        obtain ⟨y1264, hy1264⟩ : ∃ y_ : List (S131), y_ = (x3_1 ++ [(⟨wrap64 (1 + t1256), t1259⟩ : S131)]) := ⟨_, rfl⟩
        replace H : (spec_l02DrawSegs.l0 kj8 y1264 x6_8 (wrap64 (x5_1 - 1)) s0_0 t1262 t1263) = some (r1, r2, r3) := by first | (rw [hy1264]; with_reducible exact H) | (have H2_ := (zS _ _).symm.trans H; rw [hy1264]; with_reducible exact H2_) | (have H2_ := (zS _ _).symm.trans H; with_reducible exact H2_) | with_reducible exact H | (rw [hy1264]; exact H) | exact H
        have Ny1264 := zA hy1264
        clear hy1264
        have H' := zA H
        clear H
        go_wp2_with (first | ((with_reducible refine gate_dst (N := 7) rfl ?_); refine box_event ?hg (N := 7) ?hd (cs := #[.int .i64 0, .slice none 0 0]) (t := 131) ?hr ?_; (case hd => rfl); (case hg => rfl); (case hr => first | (go_simp; done) | (go_simp; rfl)); intro gb1255 hg w16 hbox hb; have n0_ := zA (Kd.S_below (Kd.S_elderB (by (with_reducible repeat (first | apply yE | apply yF | apply yG)); exact HO_3.out) gb1255 (Nat.le_of_eq hg.symm)) hb); have n1_ := zA (IsS150.below (by repeat (first | (with_reducible first | exact HI0.out | apply IsS150.alloc | apply IsS150.drewN | apply IsS150.drew | apply IsS150.set_1 | apply IsS150.set_2) | exact HI0.out)) hb); have n2_ := zA (KeepBut.trans (by repeat (first | (with_reducible first | exact HK.out | apply zZ | apply yA | apply yB | apply yC) | exact HK.out)) (KeepBut.of_below hb g none) (.inl rfl)); have n3_ := zA (below_step (by repeat (first | (with_reducible first | exact HB.out | apply zC | apply zB | apply zF | refine zE ?_ (IsS150.ge HI0.out)) | exact HB.out)) hb); have n4_ := zA (hbox); have n5_ := zA ((by rw [hg]; exact (keep_size (w := w) (g := g) (row := none) (by repeat (first | (with_reducible first | exact HK.out | apply zZ | apply yA | apply yB | apply yC) | exact HK.out))) : w.heap.size ≤ gb1255)); have n6_ := zA ((Nat.le_trans HW0.out (by rw [hg]; exact (keep_size (w := w) (g := g) (row := none) (by repeat (first | (with_reducible first | exact HK.out | apply zZ | apply yA | apply yB | apply yC) | exact HK.out))) : w.heap.size ≤ gb1255) : w0.heap.size ≤ gb1255)); have n7_ := zA ((by rw [hg]; exact Nat.ne_of_lt (IsS150.lt (show IsS150 w0 _ g s0_0 t1252 t1253 from by repeat (first | (with_reducible first | exact HI0.out | apply IsS150.alloc | apply IsS150.drewN | apply IsS150.drew | apply IsS150.set_1 | apply IsS150.set_2) | exact HI0.out))) : g ≠ gb1255)); have n8_ := zA ((by rw [hg]; exact Nat.ne_of_gt (IsS150.lt (show IsS150 w0 _ g s0_0 t1252 t1253 from by repeat (first | (with_reducible first | exact HI0.out | apply IsS150.alloc | apply IsS150.drewN | apply IsS150.drew | apply IsS150.set_1 | apply IsS150.set_2) | exact HI0.out))) : gb1255 ≠ g)); clear HO_3; clear HI0; clear HK; clear HB; have HO_3 := n0_; have HI0 := n1_; have HK := n2_; have HB := n3_; have BK1255 := n4_; have GW1255 := n5_; have GE1255 := n6_; have NB0_1255 := n7_; have NB1255_0 := n8_; clear n0_ n1_ n2_ n3_ n4_ n5_ n6_ n7_ n8_; clear hb hbox hg; have hnb17 := NB1255_0.out; have hnc17 := NB0_1255.out; have hcz18_0 : w16.cell? ⟨gb1255, 0, none⟩ = some (.int .i64 0) := (zK BK1255.out 0).trans rfl; have hcz18_1 : w16.cell? ⟨gb1255, 1, none⟩ = some (.slice none 0 0) := (zK BK1255.out 1).trans rfl; have hfz18_0 := zJ BK1255.out 0; have hfz18_1 := zJ BK1255.out 1) | ((with_reducible refine gate_callee (f := 85) rfl ?_); refine goesL_ (some 36) rfl rfl Try.func85 (by kernel_rfl) rfl #[.pointer (some ⟨g, 0, none⟩), .int .i64 239] rfl (by (try simp only [zU, zV, zW]); first | done | rfl | (simp only [zR, zQ]; rfl)) ?_; (with_reducible refine (spec_l01Cur_pick.calls g s0_0 t1252 t1253 239 t1256 t1257 t1258 w0 _ ?side1 ?side2 A13.out).mono ?_); (case side1 => repeat (first | (with_reducible first | exact HI0.out | apply IsS150.alloc | apply IsS150.drewN | apply IsS150.drew | apply IsS150.set_1 | apply IsS150.set_2 | refine IsS150.far ?_ NB0_1255.out _) | exact HI0.out)); (case side2 => repeat (first | (with_reducible first | exact HB.out | apply zC | apply zB | apply zF | refine zE ?_ (IsS150.ge HI0.out) | refine zE ?_ GE1255.out) | exact HB.out)); rintro e w19 ⟨rfl, hi, hb, hk⟩; refine ⟨_, rfl, ?_⟩; have n0_ := zA (yH (Kd.S_keep (IsS150.apartS (show IsS150 w0 _ g s0_0 t1252 t1253 from by repeat (first | (with_reducible first | exact HI0.out | apply IsS150.alloc | apply IsS150.drewN | apply IsS150.drew | apply IsS150.set_1 | apply IsS150.set_2 | refine IsS150.far ?_ NB0_1255.out _) | exact HI0.out)) (by (with_reducible repeat (first | apply yE | apply yF | apply yG)); exact (yH (yI (p := ⟨gb1255, 1, none⟩) (yI (p := ⟨gb1255, 0, none⟩) (yH HO_3.out (fun k_ hk => (⟨hk, hk.2⟩ : _ ∧ k_ ≠ gb1255))) (fun _ hk => hk.2) (.int .i64 0)) (fun _ hk => hk.2) (.slice none 0 0)) (fun _ h_ => h_.1))) (by decide)) hk (fun _ h => h.2)) (fun _ h => h.1)); have n1_ := zA (KeepBut.blk hk (g' := gb1255) (o := .cells #[.int .i64 0, .slice none 0 0] 131 (0, 0)) (by (with_reducible repeat (first | refine zG ?_ _ | refine zH ?_ | refine zD ?_ _)); refine blk_put (cs := #[.int .i64 0, .slice none 0 0]) ?_ 1 _ rfl; (with_reducible repeat (first | refine zG ?_ _ | refine zH ?_ | refine zD ?_ _)); refine blk_put (cs := #[.int .i64 0, .slice none 0 0]) ?_ 0 _ rfl; (with_reducible repeat (first | refine zG ?_ _ | refine zH ?_ | refine zD ?_ _)); exact BK1255.out) NB1255_0.out (by simp)); have n2_ := zA (KeepBut.trans (by repeat (first | (with_reducible first | exact HK.out | apply zZ | apply yA | apply yB | apply yC | refine yD ?_ GW1255.out _) | exact HK.out)) hk (.inl rfl)); have n3_ := zA (hb); have n4_ := zA (hi); clear HO_3; clear BK1255; clear HK; clear HB; clear HI0; have HO_3 := n0_; have BK1255 := n1_; have HK := n2_; have HB := n3_; have HI0 := n4_; clear n0_ n1_ n2_ n3_ n4_; (try clear hb); (try clear hb2); (try clear hk); (try clear hi)) | ((with_reducible refine gate_callee (f := 172) rfl ?_); refine goesL_ (some 39) rfl rfl Try.func172 (by kernel_rfl) rfl #[.pointer (some ⟨g, 0, none⟩), .int .i64 9] rfl (by (try simp only [zU, zV, zW]); first | done | rfl | (simp only [zR, zQ]; rfl)) ?_; (with_reducible refine (spec_l01DrawBytes.calls kj8 g s0_0 t1257 t1258 9 t1259 t1262 t1263 w0 _ ?side1 ?side2 A14.out).mono ?_); (case side1 => repeat (first | (with_reducible first | exact HI0.out | apply IsS150.alloc | apply IsS150.drewN | apply IsS150.drew | apply IsS150.set_1 | apply IsS150.set_2 | refine IsS150.far ?_ NB0_1255.out _) | exact HI0.out)); (case side2 => repeat (first | (with_reducible first | exact HB.out | apply zC | apply zB | apply zF | refine zE ?_ (IsS150.ge HI0.out) | refine zE ?_ GE1255.out) | exact HB.out)); rintro e w20 ⟨v1260, rfl, ho0, hi, hb, hk⟩; refine ⟨_, rfl, ?_⟩; have n0_ := zA (yH (Kd.S_told (Kd.S_oldK (IsS150.apartS (show IsS150 w0 _ g s0_0 t1257 t1258 from by repeat (first | (with_reducible first | exact HI0.out | apply IsS150.alloc | apply IsS150.drewN | apply IsS150.drew | apply IsS150.set_1 | apply IsS150.set_2 | refine IsS150.far ?_ NB0_1255.out _) | exact HI0.out)) (by (with_reducible repeat (first | apply yE | apply yF | apply yG)); exact HO_3.out) (by decide)) hk) (Kd.R_base ho0)) (fun _ h_ => h_.1)); have n1_ := zA (KeepBut.blk hk (g' := gb1255) (o := .cells #[.int .i64 0, .slice none 0 0] 131 (0, 0)) (by (with_reducible repeat (first | refine zG ?_ _ | refine zH ?_ | refine zD ?_ _)); exact BK1255.out) NB1255_0.out (by simp)); have n2_ := zA (Kd.R_lower ho0 (keep_size (w := w) (g := g) (row := none) (by repeat (first | (with_reducible first | exact HK.out | apply zZ | apply yA | apply yB | apply yC | refine yD ?_ GW1255.out _) | exact HK.out)))); have n3_ := zA (KeepBut.trans (by repeat (first | (with_reducible first | exact HK.out | apply zZ | apply yA | apply yB | apply yC | refine yD ?_ GW1255.out _) | exact HK.out)) hk (.inl rfl)); have n4_ := zA (hb); have n5_ := zA (hi); clear HO_3; clear BK1255; clear HK; clear HB; clear HI0; have HO_3 := n0_; have BK1255 := n1_; have HO1261 := n2_; have HK := n3_; have HB := n4_; have HI0 := n5_; clear n0_ n1_ n2_ n3_ n4_ n5_; (try clear hb); (try clear hb2); (try clear hk); (try clear hi); (try clear ho0); obtain ⟨Ao21, co21, eo21⟩ := Kd.R_slice HO1261.out; subst eo21; have hcz22_0 : w20.cell? ⟨gb1255, 0, none⟩ = some (.int .i64 0) := (zK BK1255.out 0).trans rfl; have hcz22_1 : w20.cell? ⟨gb1255, 1, none⟩ = some (.slice none 0 0) := (zK BK1255.out 1).trans rfl; have hfz22_0 := zJ BK1255.out 0; have hfz22_1 := zJ BK1255.out 1) | ((with_reducible refine gate_store (t := 131) (p := 7) rfl ?_); refine store_event (t := 131) (p := 7) (v := ?vo_w23) (w1 := ((w20.setCell ⟨gb1255, 0, none⟩ (.int .i64 (wrap64 (1 + t1256)))).setCell ⟨gb1255, 1, none⟩ (.slice Ao21 t1259.length co21))) ?hg ?ho ?hn ?hr ?_; (case ho => rfl); (case hg => rfl); (case hn => rfl); (case hr => first | (go_simp; done) | (go_simp; rfl)); intro w23 hw; have n0_ : Aside0 (Kd.S k131 131 w23 w.heap.size (fun k_ => some k_ ≠ (.slice Ao21 t1259.length co21 : Value).ownBlock ∧ k_ ≠ gb1255) u3 x3_1) := ⟨(by rw [hw]; exact (by (with_reducible repeat (first | apply yE | apply yF | apply yG)); exact yH (yI (p := ⟨gb1255, 1, none⟩) (yI (p := ⟨gb1255, 0, none⟩) (yH HO_3.out (fun k_ hk => (⟨hk, hk.1.2⟩ : _ ∧ k_ ≠ gb1255))) (fun _ hk => hk.2) (.int .i64 (wrap64 (1 + t1256)))) (fun _ hk => hk.2) (.slice Ao21 t1259.length co21)) (fun _ hk => ⟨hk.1.2, hk.1.1.2⟩)))⟩; have n1_ : Aside0 (Kd.R (Kd.int .u8) 5 w23 w.heap.size (fun _ => True) (.slice Ao21 t1259.length co21) t1259) := ⟨(by rw [hw]; exact (by (with_reducible repeat (first | apply zN | apply zM | apply zO)); exact zP (Kd.R_far (p := ⟨gb1255, 1, none⟩) (Kd.R_far (p := ⟨gb1255, 0, none⟩) (zY HO1261.out BK1255.out (by decide)) (fun _ hk => hk.2) (.int .i64 (wrap64 (1 + t1256)))) (fun _ hk => hk.2) (.slice Ao21 t1259.length co21)) (fun _ hk => trivial)))⟩; have n2_ : Aside0 (w23.heap[gb1255]? = some (.cells #[.int .i64 (wrap64 (1 + t1256)), .slice Ao21 t1259.length co21] 131 (0, 0))) := ⟨(by rw [hw]; exact (by (with_reducible repeat (first | refine zG ?_ _ | refine zH ?_ | refine zD ?_ _)); refine blk_put (cs := #[.int .i64 (wrap64 (1 + t1256)), .slice none 0 0]) ?_ 1 _ rfl; (with_reducible repeat (first | refine zG ?_ _ | refine zH ?_ | refine zD ?_ _)); refine blk_put (cs := #[.int .i64 0, .slice none 0 0]) ?_ 0 _ rfl; (with_reducible repeat (first | refine zG ?_ _ | refine zH ?_ | refine zD ?_ _)); exact BK1255.out))⟩; have n3_ : Aside0 (IsS150 w0 w23 g s0_0 t1262 t1263) := ⟨(by rw [hw]; exact (by repeat (first | (with_reducible first | exact HI0.out | apply IsS150.alloc | apply IsS150.drewN | apply IsS150.drew | apply IsS150.set_1 | apply IsS150.set_2 | refine IsS150.far ?_ NB0_1255.out _) | exact HI0.out)))⟩; have n4_ : Aside0 (KeepBut w w23 g none) := ⟨(by rw [hw]; exact (by repeat (first | (with_reducible first | exact HK.out | apply zZ | apply yA | apply yB | apply yC | refine yD ?_ GW1255.out _) | exact HK.out)))⟩; have n5_ : Aside0 (Below w0.heap.size w0 w23) := ⟨(by rw [hw]; exact (by repeat (first | (with_reducible first | exact HB.out | apply zC | apply zB | apply zF | refine zE ?_ (IsS150.ge HI0.out) | refine zE ?_ GE1255.out) | exact HB.out)))⟩; clear hw; clear HO_3; clear HO1261; clear BK1255; clear HI0; clear HK; clear HB; have HO_3 := n0_; have HO1261 := n1_; have BK1255 := n2_; have HI0 := n3_; have HK := n4_; have HB := n5_; clear n0_ n1_ n2_ n3_ n4_ n5_; have hcz24_0 : w23.cell? ⟨gb1255, 0, none⟩ = some (.int .i64 (wrap64 (1 + t1256))) := (zK BK1255.out 0).trans rfl; have hcz24_1 : w23.cell? ⟨gb1255, 1, none⟩ = some (.slice Ao21 t1259.length co21) := (zK BK1255.out 1).trans rfl; have hfz24_0 := zJ BK1255.out 0; have hfz24_1 := zJ BK1255.out 1) | ((with_reducible refine gate_builtin (b := .append) (xs := #[.tmp 47, .tmp 49]) rfl ?_); at_builtin; refine Kd.S_append k131 w.heap.size rfl (.tmp 47) (.tmp 49) 63 131 (.agg #[(.int .i64 0), (.slice none 0 0)]) 32 rfl Try.underlying63 info131 rfl (by decide) (by omega) u3 x3_1 (⟨wrap64 (1 + t1256), t1259⟩ : S131) [.int .i64 (wrap64 (1 + t1256)), .slice Ao21 t1259.length co21] (fun k_ => k_ ≠ gb1255) (fun k_ => some k_ = (.slice Ao21 t1259.length co21 : Value).ownBlock) rfl rfl ?aP (fun k_ hk_ => ((zP (ok' := fun k_ => ((fun k_ => k_ ≠ gb1255)) k_ ∧ some k_ ≠ (u3 : Value).ownBlock) (zY (Kd.R_apart' (HO1261.out) (Kd.S_typed HO_3.out) (by decide)) BK1255.out (by decide)) (fun k_ hk => ⟨hk.2, hk.1.2⟩))).1 k_ hk_.symm) ?aF ?aO (Below.refl _ _) ?aS ?aL ?_; (case aP => exact k131_mkM _ _ _ (⟨wrap64 (1 + t1256), t1259⟩ : S131) (zP (Kd.R_tight rfl (zP (ok' := fun k_ => ((fun k_ => k_ ≠ gb1255)) k_ ∧ some k_ ≠ (u3 : Value).ownBlock) (zY (Kd.R_apart' (HO1261.out) (Kd.S_typed HO_3.out) (by decide)) BK1255.out (by decide)) (fun k_ hk => ⟨hk.2, hk.1.2⟩))) (fun _ h_ => h_))); (case aF => exact (fun k_ hk => Kd.freshB (g := gb1255) (o := .cells #[.int .i64 (wrap64 (1 + t1256)), .slice Ao21 t1259.length co21] 131 (0, 0)) (by (with_reducible repeat (first | refine zG ?_ _ | refine zH ?_ | refine zD ?_ _)); exact BK1255.out) k_ hk)); (case aO => exact (by (with_reducible repeat (first | apply yE | apply yF | apply yG)); exact yH HO_3.out (fun k_ hk => ⟨hk.2, fun e_ => hk.1 e_⟩))); (case aS => exact (keep_size (w := w) (g := g) (row := none) (by repeat (first | (with_reducible first | exact HK.out | apply zZ | apply yA | apply yB | apply yC | refine yD ?_ GW1255.out _) | exact HK.out)))); (case aL => have := LMc15.out; omega); intro v1265 w25 ho hb hg hat; rw [← Ny1264.out] at ho; have n0_ := zA (IsS150.grown (by repeat (first | (with_reducible first | exact HI0.out | apply IsS150.alloc | apply IsS150.drewN | apply IsS150.drew | apply IsS150.set_1 | apply IsS150.set_2 | refine IsS150.far ?_ NB0_1255.out _) | exact HI0.out)) hg (IsS150.own_neS HI0.out HO_3.out (by decide))); have n1_ := zA (blk_grown (g := gb1255) (o := .cells #[.int .i64 (wrap64 (1 + t1256)), .slice Ao21 t1259.length co21] 131 (0, 0)) (by (with_reducible repeat (first | refine zG ?_ _ | refine zH ?_ | refine zD ?_ _)); exact BK1255.out) hg (Kd.S_away HO_3.out (fun _ hk => hk.2))); have n2_ := zA (below_weaken (by repeat (first | (with_reducible first | exact HB.out | apply zC | apply zB | apply zF | refine zE ?_ (IsS150.ge HI0.out) | refine zE ?_ GE1255.out) | exact HB.out)) HL.out hb); have n3_ := zA (KeepBut.trans (by repeat (first | (with_reducible first | exact HK.out | apply zZ | apply yA | apply yB | apply yC | refine yD ?_ GW1255.out _) | exact HK.out)) (KeepBut.of_grown hg g) (Kd.S_base2 HO_3.out)); have n4_ := zA (ho); clear HI0; clear BK1255; clear HB; clear HK; clear HO_3; clear HO1261; have HI0 := n0_; have BK1255 := n1_; have HB := n2_; have HK := n3_; have HO1266 := n4_; clear n0_ n1_ n2_ n3_ n4_; clear ho hb hg hat))
        go_roundg kj8
        case measure => have := HK1.out; have := HJ8.out; omega
        case rel => exact ⟨(y1264), (x6_8), (wrap64 (x5_1 - 1)), (t1262), (t1263), (by first | rfl | (simp; done) | (simp [*]; done)), (by first | rfl | (simp; done) | (simp [*]; done)), H', ⟨by have := HK1.out; have := HJ8.out; omega⟩, ⟨by (with_reducible repeat (first | apply yE | apply yF | apply yG)); exact yH HO1266.out (fun _ hk => trivial)⟩, ⟨by repeat (first | (with_reducible first | exact HI0.out | apply IsS150.alloc | apply IsS150.drewN | apply IsS150.drew | apply IsS150.set_1 | apply IsS150.set_2 | refine IsS150.far ?_ NB0_1255.out _) | exact HI0.out)⟩, ⟨by repeat (first | (with_reducible first | exact HK.out | apply zZ | apply yA | apply yB | apply yC | refine yD ?_ GW1255.out _) | exact HK.out)⟩, ⟨by repeat (first | (with_reducible first | exact HB.out | apply zC | apply zB | apply zF | refine zE ?_ (IsS150.ge HI0.out) | refine zE ?_ GE1255.out) | exact HB.out)⟩⟩
       ·rw [if_neg c15] at H
        exact absurd H (by simp)
      ·rw [if_neg c12] at H
       have c12b0 : (x6_8 == 1) = false := beq_eq_false_iff_ne.mpr c12
       have c12b1 : (x6_8 != 1) = true := bne_iff_ne.mpr c12
       by_cases c26 : x6_8 = 2
       ·rw [if_pos c26] at H
        have c26b0 : (x6_8 == 2) = true := beq_iff_eq.mpr c26
        have c26b1 : (x6_8 != 2) = false := bne_eq_false_iff_eq.mpr c26
        clear c26
        replace H := Option.bind_eq_some_iff.mp H
        obtain ⟨⟨t1267, t1268, t1269⟩, A270, H⟩ := H
        replace H : (if x3_1.length < 4398046511104 then (spec_l02DrawSegs.l0 kj8 (x3_1 ++ [(⟨wrap64 (240 + t1267), ([] : List Int)⟩ : S131)]) x6_8 (wrap64 (x5_1 - 1)) s0_0 t1268 t1269) else (none)) = some (r1, r2, r3) := H
        have A27 := zA A270
        clear A270
        by_cases c28 : x3_1.length < 4398046511104
        ·rw [if_pos c28] at H
         have LMc28 := zA c28
         clear c28
         obtain ⟨y1270, hy1270⟩ : ∃ y_ : List (S131), y_ = (x3_1 ++ [(⟨wrap64 (240 + t1267), ([] : List Int)⟩ : S131)]) := ⟨_, rfl⟩
         replace H : (spec_l02DrawSegs.l0 kj8 y1270 x6_8 (wrap64 (x5_1 - 1)) s0_0 t1268 t1269) = some (r1, r2, r3) := by first | (rw [hy1270]; with_reducible exact H) | (have H2_ := (zS _ _).symm.trans H; rw [hy1270]; with_reducible exact H2_) | (have H2_ := (zS _ _).symm.trans H; with_reducible exact H2_) | with_reducible exact H | (rw [hy1270]; exact H) | exact H
         have Ny1270 := zA hy1270
         clear hy1270
         have H' := zA H
         clear H
         go_wp2_with (first | ((with_reducible refine gate_dst (N := 7) rfl ?_); refine box_event ?hg (N := 7) ?hd (cs := #[.int .i64 0, .slice none 0 0]) (t := 131) ?hr ?_; (case hd => rfl); (case hg => rfl); (case hr => first | (go_simp; done) | (go_simp; rfl)); intro gb1255 hg w29 hbox hb; have n0_ := zA (Kd.S_below (Kd.S_elderB (by (with_reducible repeat (first | apply yE | apply yF | apply yG)); exact HO_3.out) gb1255 (Nat.le_of_eq hg.symm)) hb); have n1_ := zA (IsS150.below (by repeat (first | (with_reducible first | exact HI0.out | apply IsS150.alloc | apply IsS150.drewN | apply IsS150.drew | apply IsS150.set_1 | apply IsS150.set_2) | exact HI0.out)) hb); have n2_ := zA (KeepBut.trans (by repeat (first | (with_reducible first | exact HK.out | apply zZ | apply yA | apply yB | apply yC) | exact HK.out)) (KeepBut.of_below hb g none) (.inl rfl)); have n3_ := zA (below_step (by repeat (first | (with_reducible first | exact HB.out | apply zC | apply zB | apply zF | refine zE ?_ (IsS150.ge HI0.out)) | exact HB.out)) hb); have n4_ := zA (hbox); have n5_ := zA ((by rw [hg]; exact (keep_size (w := w) (g := g) (row := none) (by repeat (first | (with_reducible first | exact HK.out | apply zZ | apply yA | apply yB | apply yC) | exact HK.out))) : w.heap.size ≤ gb1255)); have n6_ := zA ((Nat.le_trans HW0.out (by rw [hg]; exact (keep_size (w := w) (g := g) (row := none) (by repeat (first | (with_reducible first | exact HK.out | apply zZ | apply yA | apply yB | apply yC) | exact HK.out))) : w.heap.size ≤ gb1255) : w0.heap.size ≤ gb1255)); have n7_ := zA ((by rw [hg]; exact Nat.ne_of_lt (IsS150.lt (show IsS150 w0 _ g s0_0 t1252 t1253 from by repeat (first | (with_reducible first | exact HI0.out | apply IsS150.alloc | apply IsS150.drewN | apply IsS150.drew | apply IsS150.set_1 | apply IsS150.set_2) | exact HI0.out))) : g ≠ gb1255)); have n8_ := zA ((by rw [hg]; exact Nat.ne_of_gt (IsS150.lt (show IsS150 w0 _ g s0_0 t1252 t1253 from by repeat (first | (with_reducible first | exact HI0.out | apply IsS150.alloc | apply IsS150.drewN | apply IsS150.drew | apply IsS150.set_1 | apply IsS150.set_2) | exact HI0.out))) : gb1255 ≠ g)); clear HO_3; clear HI0; clear HK; clear HB; have HO_3 := n0_; have HI0 := n1_; have HK := n2_; have HB := n3_; have BK1255 := n4_; have GW1255 := n5_; have GE1255 := n6_; have NB0_1255 := n7_; have NB1255_0 := n8_; clear n0_ n1_ n2_ n3_ n4_ n5_ n6_ n7_ n8_; clear hb hbox hg; have hnb30 := NB1255_0.out; have hnc30 := NB0_1255.out; have hcz31_0 : w29.cell? ⟨gb1255, 0, none⟩ = some (.int .i64 0) := (zK BK1255.out 0).trans rfl; have hcz31_1 : w29.cell? ⟨gb1255, 1, none⟩ = some (.slice none 0 0) := (zK BK1255.out 1).trans rfl; have hfz31_0 := zJ BK1255.out 0; have hfz31_1 := zJ BK1255.out 1) | ((with_reducible refine gate_callee (f := 85) rfl ?_); refine goesL_ (some 44) rfl rfl Try.func85 (by kernel_rfl) rfl #[.pointer (some ⟨g, 0, none⟩), .int .i64 8] rfl (by (try simp only [zU, zV, zW]); first | done | rfl | (simp only [zR, zQ]; rfl)) ?_; (with_reducible refine (spec_l01Cur_pick.calls g s0_0 t1252 t1253 8 t1267 t1268 t1269 w0 _ ?side1 ?side2 A27.out).mono ?_); (case side1 => repeat (first | (with_reducible first | exact HI0.out | apply IsS150.alloc | apply IsS150.drewN | apply IsS150.drew | apply IsS150.set_1 | apply IsS150.set_2 | refine IsS150.far ?_ NB0_1255.out _) | exact HI0.out)); (case side2 => repeat (first | (with_reducible first | exact HB.out | apply zC | apply zB | apply zF | refine zE ?_ (IsS150.ge HI0.out) | refine zE ?_ GE1255.out) | exact HB.out)); rintro e w32 ⟨rfl, hi, hb, hk⟩; refine ⟨_, rfl, ?_⟩; have n0_ := zA (yH (Kd.S_keep (IsS150.apartS (show IsS150 w0 _ g s0_0 t1252 t1253 from by repeat (first | (with_reducible first | exact HI0.out | apply IsS150.alloc | apply IsS150.drewN | apply IsS150.drew | apply IsS150.set_1 | apply IsS150.set_2 | refine IsS150.far ?_ NB0_1255.out _) | exact HI0.out)) (by (with_reducible repeat (first | apply yE | apply yF | apply yG)); exact (yH (yI (p := ⟨gb1255, 1, none⟩) (yI (p := ⟨gb1255, 0, none⟩) (yH HO_3.out (fun k_ hk => (⟨hk, hk.2⟩ : _ ∧ k_ ≠ gb1255))) (fun _ hk => hk.2) (.int .i64 0)) (fun _ hk => hk.2) (.slice none 0 0)) (fun _ h_ => h_.1))) (by decide)) hk (fun _ h => h.2)) (fun _ h => h.1)); have n1_ := zA (KeepBut.blk hk (g' := gb1255) (o := .cells #[.int .i64 0, .slice none 0 0] 131 (0, 0)) (by (with_reducible repeat (first | refine zG ?_ _ | refine zH ?_ | refine zD ?_ _)); refine blk_put (cs := #[.int .i64 0, .slice none 0 0]) ?_ 1 _ rfl; (with_reducible repeat (first | refine zG ?_ _ | refine zH ?_ | refine zD ?_ _)); refine blk_put (cs := #[.int .i64 0, .slice none 0 0]) ?_ 0 _ rfl; (with_reducible repeat (first | refine zG ?_ _ | refine zH ?_ | refine zD ?_ _)); exact BK1255.out) NB1255_0.out (by simp)); have n2_ := zA (KeepBut.trans (by repeat (first | (with_reducible first | exact HK.out | apply zZ | apply yA | apply yB | apply yC | refine yD ?_ GW1255.out _) | exact HK.out)) hk (.inl rfl)); have n3_ := zA (hb); have n4_ := zA (hi); clear HO_3; clear BK1255; clear HK; clear HB; clear HI0; have HO_3 := n0_; have BK1255 := n1_; have HK := n2_; have HB := n3_; have HI0 := n4_; clear n0_ n1_ n2_ n3_ n4_; (try clear hb); (try clear hb2); (try clear hk); (try clear hi); have hcz33_0 : w32.cell? ⟨gb1255, 0, none⟩ = some (.int .i64 0) := (zK BK1255.out 0).trans rfl; have hcz33_1 : w32.cell? ⟨gb1255, 1, none⟩ = some (.slice none 0 0) := (zK BK1255.out 1).trans rfl; have hfz33_0 := zJ BK1255.out 0; have hfz33_1 := zJ BK1255.out 1) | ((with_reducible refine gate_builtin (b := .append) (xs := #[.tmp 47, .tmp 49]) rfl ?_); at_builtin; refine Kd.S_append k131 w.heap.size rfl (.tmp 47) (.tmp 49) 63 131 (.agg #[(.int .i64 0), (.slice none 0 0)]) 32 rfl Try.underlying63 info131 rfl (by decide) (by omega) u3 x3_1 (⟨wrap64 (240 + t1267), ([] : List Int)⟩ : S131) [.int .i64 (wrap64 (240 + t1267)), .slice none 0 0] (fun k_ => k_ ≠ gb1255) (fun _ => False) rfl ?aR ?aP (fun k_ hk_ => hk_.elim) ?aF ?aO (Below.refl _ _) ?aS ?aL ?_; (case aR => first | rfl | (go_simp; done) | (go_simp; rfl)); (case aP => exact k131_mkM _ _ _ (⟨wrap64 (240 + t1267), ([] : List Int)⟩ : S131) (Kd.R_nil _ _ _ _ _)); (case aF => exact (fun k_ hk => Kd.freshB (g := gb1255) (o := .cells #[.int .i64 (wrap64 (240 + t1267)), .slice none 0 0] 131 (0, 0)) (by (with_reducible repeat (first | refine zG ?_ _ | refine zH ?_ | refine zD ?_ _)); refine blk_put (cs := #[.int .i64 (wrap64 (240 + t1267)), .slice none 0 0]) ?_ 1 _ rfl; (with_reducible repeat (first | refine zG ?_ _ | refine zH ?_ | refine zD ?_ _)); refine blk_put (cs := #[.int .i64 0, .slice none 0 0]) ?_ 0 _ rfl; (with_reducible repeat (first | refine zG ?_ _ | refine zH ?_ | refine zD ?_ _)); exact BK1255.out) k_ hk)); (case aO => exact (by (with_reducible repeat (first | apply yE | apply yF | apply yG)); exact yH (yI (p := ⟨gb1255, 1, none⟩) (yI (p := ⟨gb1255, 0, none⟩) (yH HO_3.out (fun k_ hk => (⟨hk, hk.2⟩ : _ ∧ k_ ≠ gb1255))) (fun _ hk => hk.2) (.int .i64 (wrap64 (240 + t1267)))) (fun _ hk => hk.2) (.slice none 0 0)) (fun k_ hk => ⟨hk.1.2, fun e_ => e_⟩))); (case aS => exact (keep_size (w := w) (g := g) (row := none) (by repeat (first | (with_reducible first | exact HK.out | apply zZ | apply yA | apply yB | apply yC | refine yD ?_ GW1255.out _) | exact HK.out)))); (case aL => have := LMc28.out; omega); intro v1271 w34 ho hb hg hat; rw [← Ny1270.out] at ho; have n0_ := zA (IsS150.grown (IsS150.far (p := ⟨gb1255, 1, none⟩) (IsS150.far (p := ⟨gb1255, 0, none⟩) HI0.out NB0_1255.out (.int .i64 (wrap64 (240 + t1267)))) NB0_1255.out (.slice none 0 0)) hg (IsS150.own_neS HI0.out HO_3.out (by decide))); have n1_ := zA (blk_grown (g := gb1255) (o := .cells #[.int .i64 (wrap64 (240 + t1267)), .slice none 0 0] 131 (0, 0)) (by (with_reducible repeat (first | refine zG ?_ _ | refine zH ?_ | refine zD ?_ _)); refine blk_put (cs := #[.int .i64 (wrap64 (240 + t1267)), .slice none 0 0]) ?_ 1 _ rfl; (with_reducible repeat (first | refine zG ?_ _ | refine zH ?_ | refine zD ?_ _)); refine blk_put (cs := #[.int .i64 0, .slice none 0 0]) ?_ 0 _ rfl; (with_reducible repeat (first | refine zG ?_ _ | refine zH ?_ | refine zD ?_ _)); exact BK1255.out) hg (Kd.S_away HO_3.out (fun _ hk => hk.2))); have n2_ := zA (below_weaken (by repeat (first | (with_reducible first | exact HB.out | apply zC | apply zB | apply zF | refine zE ?_ (IsS150.ge HI0.out) | refine zE ?_ GE1255.out) | exact HB.out)) HL.out hb); have n3_ := zA (KeepBut.trans (by repeat (first | (with_reducible first | exact HK.out | apply zZ | apply yA | apply yB | apply yC | refine yD ?_ GW1255.out _) | exact HK.out)) (KeepBut.of_grown hg g) (Kd.S_base2 HO_3.out)); have n4_ := zA (ho); clear HI0; clear BK1255; clear HB; clear HK; clear HO_3; have HI0 := n0_; have BK1255 := n1_; have HB := n2_; have HK := n3_; have HO1272 := n4_; clear n0_ n1_ n2_ n3_ n4_; clear ho hb hg hat))
         go_roundg kj8
         case measure => have := HK1.out; have := HJ8.out; omega
         case rel => exact ⟨(y1270), (x6_8), (wrap64 (x5_1 - 1)), (t1268), (t1269), (by first | rfl | (simp; done) | (simp [*]; done)), (by first | rfl | (simp; done) | (simp [*]; done)), H', ⟨by have := HK1.out; have := HJ8.out; omega⟩, ⟨by (with_reducible repeat (first | apply yE | apply yF | apply yG)); exact yH HO1272.out (fun _ hk => trivial)⟩, ⟨by repeat (first | (with_reducible first | exact HI0.out | apply IsS150.alloc | apply IsS150.drewN | apply IsS150.drew | apply IsS150.set_1 | apply IsS150.set_2 | refine IsS150.far ?_ NB0_1255.out _) | exact HI0.out)⟩, ⟨by repeat (first | (with_reducible first | exact HK.out | apply zZ | apply yA | apply yB | apply yC | refine yD ?_ GW1255.out _) | exact HK.out)⟩, ⟨by repeat (first | (with_reducible first | exact HB.out | apply zC | apply zB | apply zF | refine zE ?_ (IsS150.ge HI0.out) | refine zE ?_ GE1255.out) | exact HB.out)⟩⟩
        ·rw [if_neg c28] at H
         exact absurd H (by simp)
       ·rw [if_neg c26] at H
        have c26b0 : (x6_8 == 2) = false := beq_eq_false_iff_ne.mpr c26
        have c26b1 : (x6_8 != 2) = true := bne_iff_ne.mpr c26
        replace H := Option.bind_eq_some_iff.mp H
        obtain ⟨⟨t1273, t1276, t1277⟩, A350, H⟩ := H
        replace H : ((spec_l01Cur_pick.f s0_0 t1276 t1277 256).bind fun bt1278 => (if t1273.length < 140737488355328 then (if x3_1.length < 4398046511104 then (spec_l02DrawSegs.l0 kj8 (x3_1 ++ [(⟨0, (t1273 ++ [(bt1278.1) % 256])⟩ : S131)]) x6_8 (wrap64 (x5_1 - 1)) s0_0 bt1278.2.1 bt1278.2.2) else (none)) else (none))) = some (r1, r2, r3) := H
        have A35 := zA A350
        clear A350
        replace H := Option.bind_eq_some_iff.mp H
        obtain ⟨⟨t1278, t1279, t1280⟩, A360, H⟩ := H
        replace H : (if t1273.length < 140737488355328 then (if x3_1.length < 4398046511104 then (spec_l02DrawSegs.l0 kj8 (x3_1 ++ [(⟨0, (t1273 ++ [(t1278) % 256])⟩ : S131)]) x6_8 (wrap64 (x5_1 - 1)) s0_0 t1279 t1280) else (none)) else (none)) = some (r1, r2, r3) := H
        have A36 := zA A360
        clear A360
        by_cases c37 : t1273.length < 140737488355328
        ·rw [if_pos c37] at H
         have LMc37 := zA c37
         clear c37
         obtain ⟨y1281, hy1281⟩ : ∃ y_ : List Int, y_ = (t1273 ++ [(t1278) % 256]) := ⟨_, rfl⟩
         replace H : (if x3_1.length < 4398046511104 then (spec_l02DrawSegs.l0 kj8 (x3_1 ++ [(⟨0, y1281⟩ : S131)]) x6_8 (wrap64 (x5_1 - 1)) s0_0 t1279 t1280) else (none)) = some (r1, r2, r3) := by first | (rw [hy1281]; with_reducible exact H) | (have H2_ := (zS _ _).symm.trans H; rw [hy1281]; with_reducible exact H2_) | (have H2_ := (zS _ _).symm.trans H; with_reducible exact H2_) | with_reducible exact H | (rw [hy1281]; exact H) | exact H
         have Ny1281 := zA hy1281
         clear hy1281
         by_cases c38 : x3_1.length < 4398046511104
         ·rw [if_pos c38] at H
          have LMc38 := zA c38
          clear c38
          obtain ⟨y1284, hy1284⟩ : ∃ y_ : List (S131), y_ = (x3_1 ++ [(⟨0, y1281⟩ : S131)]) := ⟨_, rfl⟩
          replace H : (spec_l02DrawSegs.l0 kj8 y1284 x6_8 (wrap64 (x5_1 - 1)) s0_0 t1279 t1280) = some (r1, r2, r3) := by first | (rw [hy1284]; with_reducible exact H) | (have H2_ := (zS _ _).symm.trans H; rw [hy1284]; with_reducible exact H2_) | (have H2_ := (zS _ _).symm.trans H; with_reducible exact H2_) | with_reducible exact H | (rw [hy1284]; exact H) | exact H
          have Ny1284 := zA hy1284
          clear hy1284
          have H' := zA H
          clear H
          go_wp2_with (first | ((with_reducible refine gate_dst (N := 7) rfl ?_); refine box_event ?hg (N := 7) ?hd (cs := #[.int .i64 0, .slice none 0 0]) (t := 131) ?hr ?_; (case hd => rfl); (case hg => rfl); (case hr => first | (go_simp; done) | (go_simp; rfl)); intro gb1255 hg w39 hbox hb; have n0_ := zA (Kd.S_below (Kd.S_elderB (by (with_reducible repeat (first | apply yE | apply yF | apply yG)); exact HO_3.out) gb1255 (Nat.le_of_eq hg.symm)) hb); have n1_ := zA (IsS150.below (by repeat (first | (with_reducible first | exact HI0.out | apply IsS150.alloc | apply IsS150.drewN | apply IsS150.drew | apply IsS150.set_1 | apply IsS150.set_2) | exact HI0.out)) hb); have n2_ := zA (KeepBut.trans (by repeat (first | (with_reducible first | exact HK.out | apply zZ | apply yA | apply yB | apply yC) | exact HK.out)) (KeepBut.of_below hb g none) (.inl rfl)); have n3_ := zA (below_step (by repeat (first | (with_reducible first | exact HB.out | apply zC | apply zB | apply zF | refine zE ?_ (IsS150.ge HI0.out)) | exact HB.out)) hb); have n4_ := zA (hbox); have n5_ := zA ((by rw [hg]; exact (keep_size (w := w) (g := g) (row := none) (by repeat (first | (with_reducible first | exact HK.out | apply zZ | apply yA | apply yB | apply yC) | exact HK.out))) : w.heap.size ≤ gb1255)); have n6_ := zA ((Nat.le_trans HW0.out (by rw [hg]; exact (keep_size (w := w) (g := g) (row := none) (by repeat (first | (with_reducible first | exact HK.out | apply zZ | apply yA | apply yB | apply yC) | exact HK.out))) : w.heap.size ≤ gb1255) : w0.heap.size ≤ gb1255)); have n7_ := zA ((by rw [hg]; exact Nat.ne_of_lt (IsS150.lt (show IsS150 w0 _ g s0_0 t1252 t1253 from by repeat (first | (with_reducible first | exact HI0.out | apply IsS150.alloc | apply IsS150.drewN | apply IsS150.drew | apply IsS150.set_1 | apply IsS150.set_2) | exact HI0.out))) : g ≠ gb1255)); have n8_ := zA ((by rw [hg]; exact Nat.ne_of_gt (IsS150.lt (show IsS150 w0 _ g s0_0 t1252 t1253 from by repeat (first | (with_reducible first | exact HI0.out | apply IsS150.alloc | apply IsS150.drewN | apply IsS150.drew | apply IsS150.set_1 | apply IsS150.set_2) | exact HI0.out))) : gb1255 ≠ g)); clear HO_3; clear HI0; clear HK; clear HB; have HO_3 := n0_; have HI0 := n1_; have HK := n2_; have HB := n3_; have BK1255 := n4_; have GW1255 := n5_; have GE1255 := n6_; have NB0_1255 := n7_; have NB1255_0 := n8_; clear n0_ n1_ n2_ n3_ n4_ n5_ n6_ n7_ n8_; clear hb hbox hg; have hnb40 := NB1255_0.out; have hnc40 := NB0_1255.out; have hcz41_0 : w39.cell? ⟨gb1255, 0, none⟩ = some (.int .i64 0) := (zK BK1255.out 0).trans rfl; have hcz41_1 : w39.cell? ⟨gb1255, 1, none⟩ = some (.slice none 0 0) := (zK BK1255.out 1).trans rfl; have hfz41_0 := zJ BK1255.out 0; have hfz41_1 := zJ BK1255.out 1) | ((with_reducible refine gate_callee (f := 172) rfl ?_); refine goesL_ (some 26) rfl rfl Try.func172 (by kernel_rfl) rfl #[.pointer (some ⟨g, 0, none⟩), .int .i64 9] rfl (by (try simp only [zU, zV, zW]); first | done | rfl | (simp only [zR, zQ]; rfl)) ?_; (with_reducible refine (spec_l01DrawBytes.calls kj8 g s0_0 t1252 t1253 9 t1273 t1276 t1277 w0 _ ?side1 ?side2 A35.out).mono ?_); (case side1 => repeat (first | (with_reducible first | exact HI0.out | apply IsS150.alloc | apply IsS150.drewN | apply IsS150.drew | apply IsS150.set_1 | apply IsS150.set_2 | refine IsS150.far ?_ NB0_1255.out _) | exact HI0.out)); (case side2 => repeat (first | (with_reducible first | exact HB.out | apply zC | apply zB | apply zF | refine zE ?_ (IsS150.ge HI0.out) | refine zE ?_ GE1255.out) | exact HB.out)); rintro e w42 ⟨v1274, rfl, ho0, hi, hb, hk⟩; refine ⟨_, rfl, ?_⟩; have n0_ := zA (yH (Kd.S_told (Kd.S_oldK (IsS150.apartS (show IsS150 w0 _ g s0_0 t1252 t1253 from by repeat (first | (with_reducible first | exact HI0.out | apply IsS150.alloc | apply IsS150.drewN | apply IsS150.drew | apply IsS150.set_1 | apply IsS150.set_2 | refine IsS150.far ?_ NB0_1255.out _) | exact HI0.out)) (by (with_reducible repeat (first | apply yE | apply yF | apply yG)); exact (yH (yI (p := ⟨gb1255, 1, none⟩) (yI (p := ⟨gb1255, 0, none⟩) (yH HO_3.out (fun k_ hk => (⟨hk, hk.2⟩ : _ ∧ k_ ≠ gb1255))) (fun _ hk => hk.2) (.int .i64 0)) (fun _ hk => hk.2) (.slice none 0 0)) (fun _ h_ => h_.1))) (by decide)) hk) (Kd.R_base ho0)) (fun _ h_ => h_.1)); have n1_ := zA (KeepBut.blk hk (g' := gb1255) (o := .cells #[.int .i64 0, .slice none 0 0] 131 (0, 0)) (by (with_reducible repeat (first | refine zG ?_ _ | refine zH ?_ | refine zD ?_ _)); refine blk_put (cs := #[.int .i64 0, .slice none 0 0]) ?_ 1 _ rfl; (with_reducible repeat (first | refine zG ?_ _ | refine zH ?_ | refine zD ?_ _)); refine blk_put (cs := #[.int .i64 0, .slice none 0 0]) ?_ 0 _ rfl; (with_reducible repeat (first | refine zG ?_ _ | refine zH ?_ | refine zD ?_ _)); exact BK1255.out) NB1255_0.out (by simp)); have n2_ := zA (Kd.R_lower ho0 (keep_size (w := w) (g := g) (row := none) (by repeat (first | (with_reducible first | exact HK.out | apply zZ | apply yA | apply yB | apply yC | refine yD ?_ GW1255.out _) | exact HK.out)))); have n3_ := zA (KeepBut.trans (by repeat (first | (with_reducible first | exact HK.out | apply zZ | apply yA | apply yB | apply yC | refine yD ?_ GW1255.out _) | exact HK.out)) hk (.inl rfl)); have n4_ := zA (hb); have n5_ := zA (hi); clear HO_3; clear BK1255; clear HK; clear HB; clear HI0; have HO_3 := n0_; have BK1255 := n1_; have HO1275 := n2_; have HK := n3_; have HB := n4_; have HI0 := n5_; clear n0_ n1_ n2_ n3_ n4_ n5_; (try clear hb); (try clear hb2); (try clear hk); (try clear hi); (try clear ho0)) | ((with_reducible refine gate_callee (f := 85) rfl ?_); refine goesL_ (some 28) rfl rfl Try.func85 (by kernel_rfl) rfl #[.pointer (some ⟨g, 0, none⟩), .int .i64 256] rfl (by (try simp only [zU, zV, zW]); first | done | rfl | (simp only [zR, zQ]; rfl)) ?_; (with_reducible refine (spec_l01Cur_pick.calls g s0_0 t1276 t1277 256 t1278 t1279 t1280 w0 _ ?side1 ?side2 A36.out).mono ?_); (case side1 => repeat (first | (with_reducible first | exact HI0.out | apply IsS150.alloc | apply IsS150.drewN | apply IsS150.drew | apply IsS150.set_1 | apply IsS150.set_2 | refine IsS150.far ?_ NB0_1255.out _) | exact HI0.out)); (case side2 => repeat (first | (with_reducible first | exact HB.out | apply zC | apply zB | apply zF | refine zE ?_ (IsS150.ge HI0.out) | refine zE ?_ GE1255.out) | exact HB.out)); rintro e w43 ⟨rfl, hi, hb, hk⟩; refine ⟨_, rfl, ?_⟩; have n0_ := zA (yH (Kd.S_keep (IsS150.apartS (show IsS150 w0 _ g s0_0 t1276 t1277 from by repeat (first | (with_reducible first | exact HI0.out | apply IsS150.alloc | apply IsS150.drewN | apply IsS150.drew | apply IsS150.set_1 | apply IsS150.set_2 | refine IsS150.far ?_ NB0_1255.out _) | exact HI0.out)) (by (with_reducible repeat (first | apply yE | apply yF | apply yG)); exact HO_3.out) (by decide)) hk (fun _ h => h.2)) (fun _ h => h.1)); have n1_ := zA (KeepBut.blk hk (g' := gb1255) (o := .cells #[.int .i64 0, .slice none 0 0] 131 (0, 0)) (by (with_reducible repeat (first | refine zG ?_ _ | refine zH ?_ | refine zD ?_ _)); exact BK1255.out) NB1255_0.out (by simp)); have n2_ := zA (zP (Kd.R_keep (IsS150.apart (show IsS150 w0 _ g s0_0 t1276 t1277 from by repeat (first | (with_reducible first | exact HI0.out | apply IsS150.alloc | apply IsS150.drewN | apply IsS150.drew | apply IsS150.set_1 | apply IsS150.set_2 | refine IsS150.far ?_ NB0_1255.out _) | exact HI0.out)) (by (with_reducible repeat (first | apply zN | apply zM | apply zO)); exact HO1275.out) (by decide)) hk (fun _ h => h.2)) (fun _ h => h.1)); have n3_ := zA (KeepBut.trans (by repeat (first | (with_reducible first | exact HK.out | apply zZ | apply yA | apply yB | apply yC | refine yD ?_ GW1255.out _) | exact HK.out)) hk (.inl rfl)); have n4_ := zA (hb); have n5_ := zA (hi); clear HO_3; clear BK1255; clear HO1275; clear HK; clear HB; clear HI0; have HO_3 := n0_; have BK1255 := n1_; have HO1275 := n2_; have HK := n3_; have HB := n4_; have HI0 := n5_; clear n0_ n1_ n2_ n3_ n4_ n5_; (try clear hb); (try clear hb2); (try clear hk); (try clear hi)) | ((with_reducible refine gate_builtin (b := .append) (xs := #[.tmp 26, .tmp 30]) rfl ?_); at_builtin; refine Kd.R_append (Kd.int .u8) w.heap.size rfl (.tmp 26) (.tmp 30) 23 5 (.int .u8 0) 1 rfl Try.underlying23 info5 rfl (by decide) (by omega) v1274 t1273 ((t1278) % 256) [.int .u8 ((t1278) % 256)] (fun _ => True) (fun _ => False) rfl rfl ?aP (fun _ hk => hk.elim) ?aF ?aO (Below.refl _ _) ?aS ?aL ?_; (case aP => exact rfl); (case aF => exact (fun _ _ => trivial)); (case aO => exact (by (with_reducible repeat (first | apply zN | apply zM | apply zO)); exact HO1275.out)); (case aS => exact (keep_size (w := w) (g := g) (row := none) (by repeat (first | (with_reducible first | exact HK.out | apply zZ | apply yA | apply yB | apply yC | refine yD ?_ GW1255.out _) | exact HK.out)))); (case aL => have := LMc37.out; omega); intro v1282 w44 ho hb hg hat; rw [← Ny1281.out] at ho; have n0_ := zA (Kd.S_after (ok := (fun k_ => k_ ≠ gb1255)) (by (with_reducible repeat (first | apply yE | apply yF | apply yG)); exact yH HO_3.out (fun _ hk => ⟨hk.1.2, hk.2⟩)) hg hat); have n1_ := zA (IsS150.grown (by repeat (first | (with_reducible first | exact HI0.out | apply IsS150.alloc | apply IsS150.drewN | apply IsS150.drew | apply IsS150.set_1 | apply IsS150.set_2 | refine IsS150.far ?_ NB0_1255.out _) | exact HI0.out)) hg (IsS150.own_ne HI0.out HO1275.out (by decide))); have n2_ := zA (blk_grown (g := gb1255) (o := .cells #[.int .i64 0, .slice none 0 0] 131 (0, 0)) (by (with_reducible repeat (first | refine zG ?_ _ | refine zH ?_ | refine zD ?_ _)); exact BK1255.out) hg (Kd.R_ne HO1275.out BK1255.out (by decide))); have n3_ := zA (below_weaken (by repeat (first | (with_reducible first | exact HB.out | apply zC | apply zB | apply zF | refine zE ?_ (IsS150.ge HI0.out) | refine zE ?_ GE1255.out) | exact HB.out)) HL.out hb); have n4_ := zA (KeepBut.trans (by repeat (first | (with_reducible first | exact HK.out | apply zZ | apply yA | apply yB | apply yC | refine yD ?_ GW1255.out _) | exact HK.out)) (KeepBut.of_grown hg g) (Kd.R_base2 HO1275.out)); have n5_ := zA (ho); clear HO_3; clear HI0; clear BK1255; clear HB; clear HK; clear HO1275; have HO_3 := n0_; have HI0 := n1_; have BK1255 := n2_; have HB := n3_; have HK := n4_; have HO1283 := n5_; clear n0_ n1_ n2_ n3_ n4_ n5_; clear ho hb hg hat; obtain ⟨Ao45, co45, eo45⟩ := Kd.R_slice HO1283.out; subst eo45; have hcz46_0 : w44.cell? ⟨gb1255, 0, none⟩ = some (.int .i64 0) := (zK BK1255.out 0).trans rfl; have hcz46_1 : w44.cell? ⟨gb1255, 1, none⟩ = some (.slice none 0 0) := (zK BK1255.out 1).trans rfl; have hfz46_0 := zJ BK1255.out 0; have hfz46_1 := zJ BK1255.out 1) | ((with_reducible refine gate_store (t := 131) (p := 7) rfl ?_); refine store_event (t := 131) (p := 7) (v := ?vo_w47) (w1 := ((w44.setCell ⟨gb1255, 0, none⟩ (.int .i64 0)).setCell ⟨gb1255, 1, none⟩ (.slice Ao45 y1281.length co45))) ?hg ?ho ?hn ?hr ?_; (case ho => rfl); (case hg => rfl); (case hn => rfl); (case hr => first | (go_simp; done) | (go_simp; rfl)); intro w47 hw; have n0_ : Aside0 (Kd.S k131 131 w47 w.heap.size (fun k_ => some k_ ≠ (.slice Ao45 y1281.length co45 : Value).ownBlock ∧ k_ ≠ gb1255) u3 x3_1) := ⟨(by rw [hw]; exact (by (with_reducible repeat (first | apply yE | apply yF | apply yG)); exact yH (yI (p := ⟨gb1255, 1, none⟩) (yI (p := ⟨gb1255, 0, none⟩) (yH HO_3.out (fun k_ hk => (⟨hk, hk.1⟩ : _ ∧ k_ ≠ gb1255))) (fun _ hk => hk.2) (.int .i64 0)) (fun _ hk => hk.2) (.slice Ao45 y1281.length co45)) (fun _ hk => ⟨hk.1.2, hk.1.1⟩)))⟩; have n1_ : Aside0 (Kd.R (Kd.int .u8) 5 w47 w.heap.size (fun _ => True) (.slice Ao45 y1281.length co45) y1281) := ⟨(by rw [hw]; exact (by (with_reducible repeat (first | apply zN | apply zM | apply zO)); exact zP (Kd.R_far (p := ⟨gb1255, 1, none⟩) (Kd.R_far (p := ⟨gb1255, 0, none⟩) (zY HO1283.out BK1255.out (by decide)) (fun _ hk => hk.2) (.int .i64 0)) (fun _ hk => hk.2) (.slice Ao45 y1281.length co45)) (fun _ hk => trivial)))⟩; have n2_ : Aside0 (w47.heap[gb1255]? = some (.cells #[.int .i64 0, .slice Ao45 y1281.length co45] 131 (0, 0))) := ⟨(by rw [hw]; exact (by (with_reducible repeat (first | refine zG ?_ _ | refine zH ?_ | refine zD ?_ _)); refine blk_put (cs := #[.int .i64 0, .slice none 0 0]) ?_ 1 _ rfl; (with_reducible repeat (first | refine zG ?_ _ | refine zH ?_ | refine zD ?_ _)); refine blk_put (cs := #[.int .i64 0, .slice none 0 0]) ?_ 0 _ rfl; (with_reducible repeat (first | refine zG ?_ _ | refine zH ?_ | refine zD ?_ _)); exact BK1255.out))⟩; have n3_ : Aside0 (IsS150 w0 w47 g s0_0 t1279 t1280) := ⟨(by rw [hw]; exact (by repeat (first | (with_reducible first | exact HI0.out | apply IsS150.alloc | apply IsS150.drewN | apply IsS150.drew | apply IsS150.set_1 | apply IsS150.set_2 | refine IsS150.far ?_ NB0_1255.out _) | exact HI0.out)))⟩; have n4_ : Aside0 (KeepBut w w47 g none) := ⟨(by rw [hw]; exact (by repeat (first | (with_reducible first | exact HK.out | apply zZ | apply yA | apply yB | apply yC | refine yD ?_ GW1255.out _) | exact HK.out)))⟩; have n5_ : Aside0 (Below w0.heap.size w0 w47) := ⟨(by rw [hw]; exact (by repeat (first | (with_reducible first | exact HB.out | apply zC | apply zB | apply zF | refine zE ?_ (IsS150.ge HI0.out) | refine zE ?_ GE1255.out) | exact HB.out)))⟩; clear hw; clear HO_3; clear HO1283; clear BK1255; clear HI0; clear HK; clear HB; have HO_3 := n0_; have HO1283 := n1_; have BK1255 := n2_; have HI0 := n3_; have HK := n4_; have HB := n5_; clear n0_ n1_ n2_ n3_ n4_ n5_; have hcz48_0 : w47.cell? ⟨gb1255, 0, none⟩ = some (.int .i64 0) := (zK BK1255.out 0).trans rfl; have hcz48_1 : w47.cell? ⟨gb1255, 1, none⟩ = some (.slice Ao45 y1281.length co45) := (zK BK1255.out 1).trans rfl; have hfz48_0 := zJ BK1255.out 0; have hfz48_1 := zJ BK1255.out 1) | ((with_reducible refine gate_builtin (b := .append) (xs := #[.tmp 47, .tmp 49]) rfl ?_); at_builtin; refine Kd.S_append k131 w.heap.size rfl (.tmp 47) (.tmp 49) 63 131 (.agg #[(.int .i64 0), (.slice none 0 0)]) 32 rfl Try.underlying63 info131 rfl (by decide) (by omega) u3 x3_1 (⟨0, y1281⟩ : S131) [.int .i64 0, .slice Ao45 y1281.length co45] (fun k_ => k_ ≠ gb1255) (fun k_ => some k_ = (.slice Ao45 y1281.length co45 : Value).ownBlock) rfl rfl ?aP (fun k_ hk_ => ((zP (ok' := fun k_ => ((fun k_ => k_ ≠ gb1255)) k_ ∧ some k_ ≠ (u3 : Value).ownBlock) (zY (Kd.R_apart' (HO1283.out) (Kd.S_typed HO_3.out) (by decide)) BK1255.out (by decide)) (fun k_ hk => ⟨hk.2, hk.1.2⟩))).1 k_ hk_.symm) ?aF ?aO (Below.refl _ _) ?aS ?aL ?_; (case aP => exact k131_mkM _ _ _ (⟨0, y1281⟩ : S131) (zP (Kd.R_tight rfl (zP (ok' := fun k_ => ((fun k_ => k_ ≠ gb1255)) k_ ∧ some k_ ≠ (u3 : Value).ownBlock) (zY (Kd.R_apart' (HO1283.out) (Kd.S_typed HO_3.out) (by decide)) BK1255.out (by decide)) (fun k_ hk => ⟨hk.2, hk.1.2⟩))) (fun _ h_ => h_))); (case aF => exact (fun k_ hk => Kd.freshB (g := gb1255) (o := .cells #[.int .i64 0, .slice Ao45 y1281.length co45] 131 (0, 0)) (by (with_reducible repeat (first | refine zG ?_ _ | refine zH ?_ | refine zD ?_ _)); exact BK1255.out) k_ hk)); (case aO => exact (by (with_reducible repeat (first | apply yE | apply yF | apply yG)); exact yH HO_3.out (fun k_ hk => ⟨hk.2, fun e_ => hk.1 e_⟩))); (case aS => exact (keep_size (w := w) (g := g) (row := none) (by repeat (first | (with_reducible first | exact HK.out | apply zZ | apply yA | apply yB | apply yC | refine yD ?_ GW1255.out _) | exact HK.out)))); (case aL => have := LMc38.out; omega); intro v1285 w49 ho hb hg hat; rw [← Ny1284.out] at ho; have n0_ := zA (IsS150.grown (by repeat (first | (with_reducible first | exact HI0.out | apply IsS150.alloc | apply IsS150.drewN | apply IsS150.drew | apply IsS150.set_1 | apply IsS150.set_2 | refine IsS150.far ?_ NB0_1255.out _) | exact HI0.out)) hg (IsS150.own_neS HI0.out HO_3.out (by decide))); have n1_ := zA (blk_grown (g := gb1255) (o := .cells #[.int .i64 0, .slice Ao45 y1281.length co45] 131 (0, 0)) (by (with_reducible repeat (first | refine zG ?_ _ | refine zH ?_ | refine zD ?_ _)); exact BK1255.out) hg (Kd.S_away HO_3.out (fun _ hk => hk.2))); have n2_ := zA (below_weaken (by repeat (first | (with_reducible first | exact HB.out | apply zC | apply zB | apply zF | refine zE ?_ (IsS150.ge HI0.out) | refine zE ?_ GE1255.out) | exact HB.out)) HL.out hb); have n3_ := zA (KeepBut.trans (by repeat (first | (with_reducible first | exact HK.out | apply zZ | apply yA | apply yB | apply yC | refine yD ?_ GW1255.out _) | exact HK.out)) (KeepBut.of_grown hg g) (Kd.S_base2 HO_3.out)); have n4_ := zA (ho); clear HI0; clear BK1255; clear HB; clear HK; clear HO_3; clear HO1283; have HI0 := n0_; have BK1255 := n1_; have HB := n2_; have HK := n3_; have HO1286 := n4_; clear n0_ n1_ n2_ n3_ n4_; clear ho hb hg hat))
          go_roundg kj8
          case measure => have := HK1.out; have := HJ8.out; omega
          case rel => exact ⟨(y1284), (x6_8), (wrap64 (x5_1 - 1)), (t1279), (t1280), (by first | rfl | (simp; done) | (simp [*]; done)), (by first | rfl | (simp; done) | (simp [*]; done)), H', ⟨by have := HK1.out; have := HJ8.out; omega⟩, ⟨by (with_reducible repeat (first | apply yE | apply yF | apply yG)); exact yH HO1286.out (fun _ hk => trivial)⟩, ⟨by repeat (first | (with_reducible first | exact HI0.out | apply IsS150.alloc | apply IsS150.drewN | apply IsS150.drew | apply IsS150.set_1 | apply IsS150.set_2 | refine IsS150.far ?_ NB0_1255.out _) | exact HI0.out)⟩, ⟨by repeat (first | (with_reducible first | exact HK.out | apply zZ | apply yA | apply yB | apply yC | refine yD ?_ GW1255.out _) | exact HK.out)⟩, ⟨by repeat (first | (with_reducible first | exact HB.out | apply zC | apply zB | apply zF | refine zE ?_ (IsS150.ge HI0.out) | refine zE ?_ GE1255.out) | exact HB.out)⟩⟩
         ·rw [if_neg c38] at H
          exact absurd H (by simp)
        ·rw [if_neg c37] at H
         exact absurd H (by simp)
   ·rw [if_neg c6] at H
    have c6b0 : decide (0 < x5_1) = false := decide_eq_false c6
    clear c6
    replace H := Option.bind_eq_some_iff.mp H
    obtain ⟨⟨t1287, t1288, t1289⟩, A500, H⟩ := H
    replace H : (if t1287 = 0 then (if (x3_1.length : Int) > 0 then ((spec_l01Cur_pick.f s0_0 t1288 t1289 (x3_1.length : Int)).bind fun bt1290 => ((some (([0, 240, 248, 254, 255, 256, (-1), 247, 239] : List Int) : List Int)).bind fun y1293 => ((spec_l01Cur_pick.f s0_0 bt1290.2.1 bt1290.2.2 9).bind fun bt1296 => (if 0 ≤ bt1296.1 then (if bt1296.1 < (y1293.length : Int) then (if 0 ≤ bt1290.1 then (if bt1290.1 < (x3_1.length : Int) then (some ((x3_1.set (bt1290.1 : Int).toNat (⟨rd y1293 bt1296.1, (rd_T131 x3_1 bt1290.1).f1⟩ : S131)), bt1296.2.1, bt1296.2.2)) else (none)) else (none)) else (none)) else (none))))) else (some (x3_1, t1288, t1289))) else (if t1287 = 1 then (spec_l02DrawSegs.l1 k1 x3_1 s0_0 t1288 t1289) else (if t1287 = 2 then ((spec_l01Cur_pick.f s0_0 t1288 t1289 2).bind fun bt1307 => (if 0 ≤ (wrap64 (20000 + bt1307.1)) then (if (wrap64 (20000 + bt1307.1) : Int).toNat ≤ 281474976710656 then (if x3_1.length < 4398046511104 then (some ((x3_1 ++ [(⟨9, (List.replicate (wrap64 (20000 + bt1307.1) : Int).toNat 0)⟩ : S131)]), bt1307.2.1, bt1307.2.2)) else (none)) else (none)) else (none))) else (some (x3_1, t1288, t1289))))) = some (r1, r2, r3) := H
    have A50 := zA A500
    clear A500
    by_cases c51 : t1287 = 0
    ·rw [if_pos c51] at H
     have c51b0 : (t1287 == 0) = true := beq_iff_eq.mpr c51
     have c51b1 : (t1287 != 0) = false := bne_eq_false_iff_eq.mpr c51
     clear c51
     by_cases c52 : (x3_1.length : Int) > 0
     ·rw [if_pos c52] at H
      have c52b0 : decide (0 < (x3_1.length : Int)) = true := zT c52
      have c52b1 : decide (0 < x3_1.length) = true := zT (by omega)
      clear c52
      replace H := Option.bind_eq_some_iff.mp H
      obtain ⟨⟨t1290, t1291, t1292⟩, A530, H⟩ := H
      replace H : ((some (([0, 240, 248, 254, 255, 256, (-1), 247, 239] : List Int) : List Int)).bind fun y1293 => ((spec_l01Cur_pick.f s0_0 t1291 t1292 9).bind fun bt1296 => (if 0 ≤ bt1296.1 then (if bt1296.1 < (y1293.length : Int) then (if 0 ≤ t1290 then (if t1290 < (x3_1.length : Int) then (some ((x3_1.set (t1290 : Int).toNat (⟨rd y1293 bt1296.1, (rd_T131 x3_1 t1290).f1⟩ : S131)), bt1296.2.1, bt1296.2.2)) else (none)) else (none)) else (none)) else (none)))) = some (r1, r2, r3) := H
      have A53 := zA A530
      clear A530
      obtain ⟨y1293, hy1293⟩ : ∃ y_ : List Int, y_ = (([0, 240, 248, 254, 255, 256, (-1), 247, 239] : List Int)) := ⟨_, rfl⟩
      replace H : ((spec_l01Cur_pick.f s0_0 t1291 t1292 9).bind fun bt1296 => (if 0 ≤ bt1296.1 then (if bt1296.1 < (y1293.length : Int) then (if 0 ≤ t1290 then (if t1290 < (x3_1.length : Int) then (some ((x3_1.set (t1290 : Int).toNat (⟨rd y1293 bt1296.1, (rd_T131 x3_1 t1290).f1⟩ : S131)), bt1296.2.1, bt1296.2.2)) else (none)) else (none)) else (none)) else (none))) = some (r1, r2, r3) := by first | (rw [hy1293]; with_reducible exact H) | (have H2_ := (zS _ _).symm.trans H; rw [hy1293]; with_reducible exact H2_) | (have H2_ := (zS _ _).symm.trans H; with_reducible exact H2_) | with_reducible exact H | (rw [hy1293]; exact H) | exact H
      have Ny1293 := zA hy1293
      clear hy1293
      replace H := Option.bind_eq_some_iff.mp H
      obtain ⟨⟨t1296, t1297, t1298⟩, A540, H⟩ := H
      replace H : (if 0 ≤ t1296 then (if t1296 < (y1293.length : Int) then (if 0 ≤ t1290 then (if t1290 < (x3_1.length : Int) then (some ((x3_1.set (t1290 : Int).toNat (⟨rd y1293 t1296, (rd_T131 x3_1 t1290).f1⟩ : S131)), t1297, t1298)) else (none)) else (none)) else (none)) else (none)) = some (r1, r2, r3) := H
      have A54 := zA A540
      clear A540
      by_cases c55 : 0 ≤ t1296
      ·rw [if_pos c55] at H
       have c55b0 : decide (0 ≤ t1296) = true := zT c55
       clear c55
       by_cases c56 : t1296 < (y1293.length : Int)
       ·rw [if_pos c56] at H
        have c56b0 : decide (t1296 < (y1293.length : Int)) = true := zT c56
        clear c56
        by_cases c57 : 0 ≤ t1290
        ·rw [if_pos c57] at H
         have c57b0 : decide (0 ≤ t1290) = true := zT c57
         clear c57
         by_cases c58 : t1290 < (x3_1.length : Int)
         ·rw [if_pos c58] at H
          have c58b0 : decide (t1290 < (x3_1.length : Int)) = true := zT c58
          clear c58
          obtain ⟨y1300, hy1300⟩ : ∃ y_ : List (S131), y_ = (x3_1.set (t1290 : Int).toNat (⟨rd y1293 t1296, (rd_T131 x3_1 t1290).f1⟩ : S131)) := ⟨_, rfl⟩
          replace H : (some (y1300, t1297, t1298)) = some (r1, r2, r3) := by first | (rw [hy1300]; with_reducible exact H) | (have H2_ := (zS _ _).symm.trans H; rw [hy1300]; with_reducible exact H2_) | (have H2_ := (zS _ _).symm.trans H; with_reducible exact H2_) | with_reducible exact H | (rw [hy1300]; exact H) | exact H
          have Ny1300 := zA hy1300
          clear hy1300
          simp only [Option.some.injEq, Prod.mk.injEq] at H
          obtain ⟨rfl, rfl, rfl⟩ := H
          go_wp2_with (first | ((with_reducible refine gate_callee (f := 85) rfl ?_); refine goesL_ (some 53) rfl rfl Try.func85 (by kernel_rfl) rfl #[.pointer (some ⟨g, 0, none⟩), .int .i64 24] rfl (by (try simp only [zU, zV, zW]); first | done | rfl | (simp only [zR, zQ]; rfl)) ?_; (with_reducible refine (spec_l01Cur_pick.calls g s0_0 x1001_1 x1002_1 24 t1287 t1288 t1289 w0 _ ?side1 ?side2 A50.out).mono ?_); (case side1 => repeat (first | (with_reducible first | exact HI0.out | apply IsS150.alloc | apply IsS150.drewN | apply IsS150.drew | apply IsS150.set_1 | apply IsS150.set_2) | exact HI0.out)); (case side2 => repeat (first | (with_reducible first | exact HB.out | apply zC | apply zB | apply zF | refine zE ?_ (IsS150.ge HI0.out)) | exact HB.out)); rintro e w60 ⟨rfl, hi, hb, hk⟩; refine ⟨_, rfl, ?_⟩; have n0_ := zA (yH (Kd.S_keep (IsS150.apartS (show IsS150 w0 _ g s0_0 x1001_1 x1002_1 from by repeat (first | (with_reducible first | exact HI0.out | apply IsS150.alloc | apply IsS150.drewN | apply IsS150.drew | apply IsS150.set_1 | apply IsS150.set_2) | exact HI0.out)) (by (with_reducible repeat (first | apply yE | apply yF | apply yG)); exact HO_3.out) (by decide)) hk (fun _ h => h.2)) (fun _ h => h.1)); have n1_ := zA (KeepBut.trans (by repeat (first | (with_reducible first | exact HK.out | apply zZ | apply yA | apply yB | apply yC) | exact HK.out)) hk (.inl rfl)); have n2_ := zA (hb); have n3_ := zA (hi); clear HO_3; clear HK; clear HB; clear HI0; have HO_3 := n0_; have HK := n1_; have HB := n2_; have HI0 := n3_; clear n0_ n1_ n2_ n3_; (try clear hb); (try clear hb2); (try clear hk); (try clear hi); obtain ⟨Ao61, co61, eo61⟩ := Kd.S_slice HO_3.out; subst eo61) | ((with_reducible refine gate_callee (f := 85) rfl ?_); refine goesL_ (some 62) rfl rfl Try.func85 (by kernel_rfl) rfl #[.pointer (some ⟨g, 0, none⟩), .int .i64 (x3_1.length : Int)] rfl (by (try simp only [zU, zV, zW]); first | done | rfl | (simp only [zR, zQ]; rfl)) ?_; (with_reducible refine (spec_l01Cur_pick.calls g s0_0 t1288 t1289 (x3_1.length : Int) t1290 t1291 t1292 w0 _ ?side1 ?side2 A53.out).mono ?_); (case side1 => repeat (first | (with_reducible first | exact HI0.out | apply IsS150.alloc | apply IsS150.drewN | apply IsS150.drew | apply IsS150.set_1 | apply IsS150.set_2) | exact HI0.out)); (case side2 => repeat (first | (with_reducible first | exact HB.out | apply zC | apply zB | apply zF | refine zE ?_ (IsS150.ge HI0.out)) | exact HB.out)); rintro e w62 ⟨rfl, hi, hb, hk⟩; refine ⟨_, rfl, ?_⟩; have n0_ := zA (yH (Kd.S_keep (IsS150.apartS (show IsS150 w0 _ g s0_0 t1288 t1289 from by repeat (first | (with_reducible first | exact HI0.out | apply IsS150.alloc | apply IsS150.drewN | apply IsS150.drew | apply IsS150.set_1 | apply IsS150.set_2) | exact HI0.out)) (by (with_reducible repeat (first | apply yE | apply yF | apply yG)); exact HO_3.out) (by decide)) hk (fun _ h => h.2)) (fun _ h => h.1)); have n1_ := zA (KeepBut.trans (by repeat (first | (with_reducible first | exact HK.out | apply zZ | apply yA | apply yB | apply yC) | exact HK.out)) hk (.inl rfl)); have n2_ := zA (hb); have n3_ := zA (hi); clear HO_3; clear HK; clear HB; clear HI0; have HO_3 := n0_; have HK := n1_; have HB := n2_; have HI0 := n3_; clear n0_ n1_ n2_ n3_; (try clear hb); (try clear hb2); (try clear hk); (try clear hi)) | ((with_reducible refine gate_dst (N := 65) rfl ?_); refine Kd.R_lit (Kd.int .i64) _ 3 ?hg (N := 65) ?hd (xs := ([0, 240, 248, 254, 255, 256, (-1), 247, 239] : List Int)) (inner := [.int .i64 0, .int .i64 240, .int .i64 248, .int .i64 254, .int .i64 255, .int .i64 256, .int .i64 (-1), .int .i64 247, .int .i64 239]) (ok := fun _ => True) (okp := fun _ => True) ?hr ?hp (fun _ hk => hk) trivial (Below.refl _ _) (Nat.le_refl _) (by simp) ?_; (case hd => rfl); (case hg => rfl); (case hr => first | (go_simp; done) | (go_simp; rfl)); (case hp => exact (Reps.one (show Kd.M (Kd.int .i64) _ _ _ 0 [.int .i64 0] from rfl) (Reps.one (show Kd.M (Kd.int .i64) _ _ _ 240 [.int .i64 240] from rfl) (Reps.one (show Kd.M (Kd.int .i64) _ _ _ 248 [.int .i64 248] from rfl) (Reps.one (show Kd.M (Kd.int .i64) _ _ _ 254 [.int .i64 254] from rfl) (Reps.one (show Kd.M (Kd.int .i64) _ _ _ 255 [.int .i64 255] from rfl) (Reps.one (show Kd.M (Kd.int .i64) _ _ _ 256 [.int .i64 256] from rfl) (Reps.one (show Kd.M (Kd.int .i64) _ _ _ (-1) [.int .i64 (-1)] from rfl) (Reps.one (show Kd.M (Kd.int .i64) _ _ _ 247 [.int .i64 247] from rfl) (Reps.one (show Kd.M (Kd.int .i64) _ _ _ 239 [.int .i64 239] from rfl) (Reps.none _ _))))))))))); intro v1294 w63 ho64 hb hg_ hnew_; clear hg_ hnew_; (first | rw [← Ny1293.out] at ho64 | (simp only [Int.reduceToNat] at ho64; rw [← Ny1293.out] at ho64)); have n0_ := zA (Kd.S_below (by (with_reducible repeat (first | apply yE | apply yF | apply yG)); exact HO_3.out) hb); have n1_ := zA (Kd.R_lower ho64 (keep_size (w := w) (g := g) (row := none) (by repeat (first | (with_reducible first | exact HK.out | apply zZ | apply yA | apply yB | apply yC) | exact HK.out)))); have n2_ := zA (IsS150.below (by repeat (first | (with_reducible first | exact HI0.out | apply IsS150.alloc | apply IsS150.drewN | apply IsS150.drew | apply IsS150.set_1 | apply IsS150.set_2) | exact HI0.out)) hb); have n3_ := zA (KeepBut.trans (by repeat (first | (with_reducible first | exact HK.out | apply zZ | apply yA | apply yB | apply yC) | exact HK.out)) (KeepBut.of_below hb g none) (.inl rfl)); have n4_ := zA (below_step (by repeat (first | (with_reducible first | exact HB.out | apply zC | apply zB | apply zF | refine zE ?_ (IsS150.ge HI0.out)) | exact HB.out)) hb); clear HO_3; clear HI0; clear HK; clear HB; have HO_3 := n0_; have HO1295 := n1_; have HI0 := n2_; have HK := n3_; have HB := n4_; clear n0_ n1_ n2_ n3_ n4_; clear hb ho64) | ((with_reducible refine gate_callee (f := 85) rfl ?_); refine goesL_ (some 67) rfl rfl Try.func85 (by kernel_rfl) rfl #[.pointer (some ⟨g, 0, none⟩), .int .i64 9] rfl (by (try simp only [zU, zV, zW]); first | done | rfl | (simp only [zR, zQ]; rfl)) ?_; (with_reducible refine (spec_l01Cur_pick.calls g s0_0 t1291 t1292 9 t1296 t1297 t1298 w0 _ ?side1 ?side2 A54.out).mono ?_); (case side1 => repeat (first | (with_reducible first | exact HI0.out | apply IsS150.alloc | apply IsS150.drewN | apply IsS150.drew | apply IsS150.set_1 | apply IsS150.set_2) | exact HI0.out)); (case side2 => repeat (first | (with_reducible first | exact HB.out | apply zC | apply zB | apply zF | refine zE ?_ (IsS150.ge HI0.out)) | exact HB.out)); rintro e w65 ⟨rfl, hi, hb, hk⟩; refine ⟨_, rfl, ?_⟩; have n0_ := zA (yH (Kd.S_keep (IsS150.apartS (show IsS150 w0 _ g s0_0 t1291 t1292 from by repeat (first | (with_reducible first | exact HI0.out | apply IsS150.alloc | apply IsS150.drewN | apply IsS150.drew | apply IsS150.set_1 | apply IsS150.set_2) | exact HI0.out)) (by (with_reducible repeat (first | apply yE | apply yF | apply yG)); exact HO_3.out) (by decide)) hk (fun _ h => h.2)) (fun _ h => h.1)); have n1_ := zA (zP (Kd.R_keep (IsS150.apart (show IsS150 w0 _ g s0_0 t1291 t1292 from by repeat (first | (with_reducible first | exact HI0.out | apply IsS150.alloc | apply IsS150.drewN | apply IsS150.drew | apply IsS150.set_1 | apply IsS150.set_2) | exact HI0.out)) (by (with_reducible repeat (first | apply zN | apply zM | apply zO)); exact HO1295.out) (by decide)) hk (fun _ h => h.2)) (fun _ h => h.1)); have n2_ := zA (KeepBut.trans (by repeat (first | (with_reducible first | exact HK.out | apply zZ | apply yA | apply yB | apply yC) | exact HK.out)) hk (.inl rfl)); have n3_ := zA (hb); have n4_ := zA (hi); clear HO_3; clear HO1295; clear HK; clear HB; clear HI0; have HO_3 := n0_; have HO1295 := n1_; have HK := n2_; have HB := n3_; have HI0 := n4_; clear n0_ n1_ n2_ n3_ n4_; (try clear hb); (try clear hb2); (try clear hk); (try clear hi); obtain ⟨Ao66, co66, eo66⟩ := Kd.R_slice HO1295.out; subst eo66; have p1299 : 0 ≤ (t1296 : Int) := zI (by first | (with_reducible assumption) | assumption); have q1299 : t1296 < (y1293.length : Int) := zI (by first | (with_reducible assumption) | assumption); obtain ⟨ad1299, e1299, hx1299_0⟩ := Kd.at_int (yK HO1295.out).2.2 t1296 p1299 q1299; cases e1299; replace p1299 := eq_true p1299; replace q1299 := eq_true q1299; have p59 : 0 ≤ (t1290 : Int) := zI (by first | (with_reducible assumption) | assumption); have q59 : (t1290 : Int) < ((x3_1.length : Int) : Int) := zI (by first | (with_reducible assumption) | assumption); obtain ⟨go59, co59, eo59, gb59, gl59, cl59, HG59⟩ := Kd.S_form HO_3.out (by omega); (first | cases eo59 | (injection eo59 with ea_ en_ ec_; (first | subst ea_ | (injection ea_ with ea_; subst ea_)); subst ec_; clear en_)); have GB59 := zA gb59; have GG59 := zA HG59; clear gb59 gl59 HG59; obtain ⟨_, ce59, hcl59, hM59, hcc59, hfr59, _, _⟩ := Kd.S_elem HO_3.out z131 (t1290 : Int) p59 q59; obtain ⟨ve59_1, rfl, ge59_1⟩ := k131_openM hM59; have hx59_0 : w65.cell? ⟨go59, (t1290 : Int).toNat * 2, none⟩ = some (.int .i64 ((rd_T131 x3_1 t1290).f0)) := hcc59 0 _ rfl; have hx59_1 : w65.cell? ⟨go59, (t1290 : Int).toNat * 2 + 1, none⟩ = some (ve59_1) := hcc59 1 _ rfl; have hf59_0 : w65.frozen? ⟨go59, (t1290 : Int).toNat * 2, none⟩ = false := hfr59 0; have hf59_1 : w65.frozen? ⟨go59, (t1290 : Int).toNat * 2 + 1, none⟩ = false := hfr59 1; clear hcl59 hcc59 hfr59; (try clear hM59); replace p59 := eq_true p59; replace q59 := eq_true q59; have HX67 := zA (show Kd.S k131 131 w65 w.heap.size (fun k_ => ((fun _ => True)) k_ ∧ ¬ ((fun _ => False)) k_) (.slice (some ⟨go59, 0, none⟩) x3_1.length co61) x3_1 from (by (with_reducible repeat (first | apply yE | apply yF | apply yG)); exact yH HO_3.out (fun k_ hk => ⟨trivial, fun e_ => e_⟩))); obtain ⟨oki67, ce67, hcl67, hM67, hcc67, hfr67, hoki67, hH67⟩ := Kd.S_elem HX67.out z131 (t1290 : Int) (zI (by first | (with_reducible assumption) | assumption)) (by have h_ : (t1290 : Int) < ((x3_1.length : Int) : Int) := zI (by first | (with_reducible assumption) | assumption); first | exact h_ | (have e_ := (Kd.S_reads' HO_3.out).1; omega) | simpa using h_); obtain ⟨ve67_1, rfl, ge67_1⟩ := k131_openM hM67; have HP67 := Kd.S_seg hH67 (zI (by first | (with_reducible assumption) | assumption)) (by have h_ : (t1290 : Int) < ((x3_1.length : Int) : Int) := zI (by first | (with_reducible assumption) | assumption); first | exact h_ | (have e_ := (Kd.S_reads' HO_3.out).1; omega) | simpa using h_) (seg := [.int .i64 (rd y1293 t1296)]) (j := 0) (show 1 ≤ 2 from by decide) (x' := (⟨rd y1293 t1296, (rd_T131 x3_1 t1290).f1⟩ : S131)) (k131_mkM _ _ _ (⟨rd y1293 t1296, (rd_T131 x3_1 t1290).f1⟩ : S131) (zP ge67_1 (fun _ h_ => Or.inl h_))) (fun _ hk => hk) (fun k_ hk_ => hk_.elim); have hx67_0 := hcc67 0 _ rfl; (try simp only [show (k131).sz = 2 from rfl, Nat.mul_one, Nat.add_zero] at hx67_0); have hf67_0 := hfr67 0; (try simp only [show (k131).sz = 2 from rfl, Nat.mul_one, Nat.add_zero] at hf67_0); clear hcl67 hcc67 hfr67 hoki67 hH67; (try clear hM67)) | ((with_reducible refine gate_store (t := 3) (p := 71) rfl ?_); refine store_event (t := 3) (p := 71) (v := ?vo_w68) (w1 := (w65.setCell ⟨go59, (t1290 : Int).toNat * 2, none⟩ (.int .i64 (rd y1293 t1296)))) ?hg ?ho ?hn ?hr ?_; (case ho => rfl); (case hg => rfl); (case hn => rfl); (case hr => first | (go_simp; done) | (go_simp; rfl)); intro w68 hw; have hg : w65.grownBy w68 (some go59) := (by rw [hw]; exact HP67.2); have hp_ : Kd.S k131 131 w68 w.heap.size (fun _ => True) (.slice (some ⟨go59, 0, none⟩) x3_1.length co61) y1300 := (by rw [hw, Ny1300.out]; exact HP67.1); clear HP67; have n0_ := zA (hp_); have n1_ := zA (IsS150.grown (by repeat (first | (with_reducible first | exact HI0.out | apply IsS150.alloc | apply IsS150.drewN | apply IsS150.drew | apply IsS150.set_1 | apply IsS150.set_2) | exact HI0.out)) hg (IsS150.own_neS HI0.out HO_3.out (by decide))); have n2_ := zA (Kd.R_over' (v := (.slice (some ⟨go59, 0, none⟩) x3_1.length co61)) (by (with_reducible repeat (first | apply zN | apply zM | apply zO)); exact HO1295.out) (Kd.S_typed HO_3.out) (by decide) hg); have n3_ := zA ((by rw [hw]; exact zE (HB.out) (Nat.le_trans HL.out GB59.out) : Below w0.heap.size w0 w68)); have n4_ := zA (KeepBut.trans (by repeat (first | (with_reducible first | exact HK.out | apply zZ | apply yA | apply yB | apply yC) | exact HK.out)) (KeepBut.of_grown hg g) (Kd.S_base2 HO_3.out)); clear HO_3; clear HI0; clear HO1295; clear HB; clear HK; have HO_3 := n0_; have HI0 := n1_; have HO1295 := n2_; have HB := n3_; have HK := n4_; clear n0_ n1_ n2_ n3_ n4_; clear hg hw hp_))
          go_ret
          exact ⟨_, by first | rfl | (simp [errW_none, errW_some] <;> rfl) | (simp [*, errW_none, errW_some] <;> rfl), by (with_reducible repeat (first | apply yE | apply yF | apply yG)); exact HO_3.out, by repeat (first | (with_reducible first | exact HI0.out | apply IsS150.alloc | apply IsS150.drewN | apply IsS150.drew | apply IsS150.set_1 | apply IsS150.set_2) | exact HI0.out), by repeat (first | (with_reducible first | exact HB.out | apply zC | apply zB | apply zF | refine zE ?_ (IsS150.ge HI0.out)) | exact HB.out), by repeat (first | (with_reducible first | exact HK.out | apply zZ | apply yA | apply yB | apply yC) | exact HK.out)⟩
         ·rw [if_neg c58] at H
          exact absurd H (by simp)
        ·rw [if_neg c57] at H
         exact absurd H (by simp)
       ·rw [if_neg c56] at H
        exact absurd H (by simp)
      ·rw [if_neg c55] at H
       exact absurd H (by simp)
     ·rw [if_neg c52] at H
      have c52b0 : decide (0 < (x3_1.length : Int)) = false := decide_eq_false c52
      have c52b1 : decide (0 < x3_1.length) = false := decide_eq_false (by omega)
      clear c52
      simp only [Option.some.injEq, Prod.mk.injEq] at H
      obtain ⟨rfl, rfl, rfl⟩ := H
      go_wp2_with (first | ((with_reducible refine gate_callee (f := 85) rfl ?_); refine goesL_ (some 53) rfl rfl Try.func85 (by kernel_rfl) rfl #[.pointer (some ⟨g, 0, none⟩), .int .i64 24] rfl (by (try simp only [zU, zV, zW]); first | done | rfl | (simp only [zR, zQ]; rfl)) ?_; (with_reducible refine (spec_l01Cur_pick.calls g s0_0 x1001_1 x1002_1 24 t1287 t1288 t1289 w0 _ ?side1 ?side2 A50.out).mono ?_); (case side1 => repeat (first | (with_reducible first | exact HI0.out | apply IsS150.alloc | apply IsS150.drewN | apply IsS150.drew | apply IsS150.set_1 | apply IsS150.set_2) | exact HI0.out)); (case side2 => repeat (first | (with_reducible first | exact HB.out | apply zC | apply zB | apply zF | refine zE ?_ (IsS150.ge HI0.out)) | exact HB.out)); rintro e w69 ⟨rfl, hi, hb, hk⟩; refine ⟨_, rfl, ?_⟩; have n0_ := zA (yH (Kd.S_keep (IsS150.apartS (show IsS150 w0 _ g s0_0 x1001_1 x1002_1 from by repeat (first | (with_reducible first | exact HI0.out | apply IsS150.alloc | apply IsS150.drewN | apply IsS150.drew | apply IsS150.set_1 | apply IsS150.set_2) | exact HI0.out)) (by (with_reducible repeat (first | apply yE | apply yF | apply yG)); exact HO_3.out) (by decide)) hk (fun _ h => h.2)) (fun _ h => h.1)); have n1_ := zA (KeepBut.trans (by repeat (first | (with_reducible first | exact HK.out | apply zZ | apply yA | apply yB | apply yC) | exact HK.out)) hk (.inl rfl)); have n2_ := zA (hb); have n3_ := zA (hi); clear HO_3; clear HK; clear HB; clear HI0; have HO_3 := n0_; have HK := n1_; have HB := n2_; have HI0 := n3_; clear n0_ n1_ n2_ n3_; (try clear hb); (try clear hb2); (try clear hk); (try clear hi); obtain ⟨Ao70, co70, eo70⟩ := Kd.S_slice HO_3.out; subst eo70))
      go_ret
      exact ⟨_, by first | rfl | (simp [errW_none, errW_some] <;> rfl) | (simp [*, errW_none, errW_some] <;> rfl), by (with_reducible repeat (first | apply yE | apply yF | apply yG)); exact HO_3.out, by repeat (first | (with_reducible first | exact HI0.out | apply IsS150.alloc | apply IsS150.drewN | apply IsS150.drew | apply IsS150.set_1 | apply IsS150.set_2) | exact HI0.out), by repeat (first | (with_reducible first | exact HB.out | apply zC | apply zB | apply zF | refine zE ?_ (IsS150.ge HI0.out)) | exact HB.out), by repeat (first | (with_reducible first | exact HK.out | apply zZ | apply yA | apply yB | apply yC) | exact HK.out)⟩
    ·rw [if_neg c51] at H
     have c51b0 : (t1287 == 0) = false := beq_eq_false_iff_ne.mpr c51
     have c51b1 : (t1287 != 0) = true := bne_iff_ne.mpr c51
     by_cases c71 : t1287 = 1
     ·rw [if_pos c71] at H
      have c71b0 : (t1287 == 1) = true := beq_iff_eq.mpr c71
      have c71b1 : (t1287 != 1) = false := bne_eq_false_iff_eq.mpr c71
      clear c71
      have H' := zA H
      clear H
      go_wp2_with (first | ((with_reducible refine gate_callee (f := 85) rfl ?_); refine goesL_ (some 53) rfl rfl Try.func85 (by kernel_rfl) rfl #[.pointer (some ⟨g, 0, none⟩), .int .i64 24] rfl (by (try simp only [zU, zV, zW]); first | done | rfl | (simp only [zR, zQ]; rfl)) ?_; (with_reducible refine (spec_l01Cur_pick.calls g s0_0 x1001_1 x1002_1 24 t1287 t1288 t1289 w0 _ ?side1 ?side2 A50.out).mono ?_); (case side1 => repeat (first | (with_reducible first | exact HI0.out | apply IsS150.alloc | apply IsS150.drewN | apply IsS150.drew | apply IsS150.set_1 | apply IsS150.set_2) | exact HI0.out)); (case side2 => repeat (first | (with_reducible first | exact HB.out | apply zC | apply zB | apply zF | refine zE ?_ (IsS150.ge HI0.out)) | exact HB.out)); rintro e w72 ⟨rfl, hi, hb, hk⟩; refine ⟨_, rfl, ?_⟩; have n0_ := zA (yH (Kd.S_keep (IsS150.apartS (show IsS150 w0 _ g s0_0 x1001_1 x1002_1 from by repeat (first | (with_reducible first | exact HI0.out | apply IsS150.alloc | apply IsS150.drewN | apply IsS150.drew | apply IsS150.set_1 | apply IsS150.set_2) | exact HI0.out)) (by (with_reducible repeat (first | apply yE | apply yF | apply yG)); exact HO_3.out) (by decide)) hk (fun _ h => h.2)) (fun _ h => h.1)); have n1_ := zA (KeepBut.trans (by repeat (first | (with_reducible first | exact HK.out | apply zZ | apply yA | apply yB | apply yC) | exact HK.out)) hk (.inl rfl)); have n2_ := zA (hb); have n3_ := zA (hi); clear HO_3; clear HK; clear HB; clear HI0; have HO_3 := n0_; have HK := n1_; have HB := n2_; have HI0 := n3_; clear n0_ n1_ n2_ n3_; (try clear hb); (try clear hb2); (try clear hk); (try clear hi)))
      go_loopg [3] k1 (fun kq v3 w' => ∃ (x3_2 : List (S131)) (x1001_2 : Int) (x1002_2 : Int), Aside0 (spec_l02DrawSegs.l1 kq x3_2 s0_0 x1001_2 x1002_2 = some (r1, r2, r3)) ∧ Aside0 (kq ≤ k1) ∧ Aside0 (Kd.S k131 131 w' w.heap.size (fun _ => True) v3 x3_2) ∧ Aside0 (IsS150 w0 w' g s0_0 x1001_2 x1002_2) ∧ Aside0 (KeepBut w w' g none) ∧ Aside0 (Below w0.heap.size w0 w'))
      case atStart => exact ⟨(x3_1), (t1288), (t1289), H', ⟨Nat.le_refl _⟩, ⟨by (with_reducible repeat (first | apply yE | apply yF | apply yG)); exact HO_3.out⟩, ⟨by repeat (first | (with_reducible first | exact HI0.out | apply IsS150.alloc | apply IsS150.drewN | apply IsS150.drew | apply IsS150.set_1 | apply IsS150.set_2) | exact HI0.out)⟩, ⟨by repeat (first | (with_reducible first | exact HK.out | apply zZ | apply yA | apply yB | apply yC) | exact HK.out)⟩, ⟨by repeat (first | (with_reducible first | exact HB.out | apply zC | apply zB | apply zF | refine zE ?_ (IsS150.ge HI0.out)) | exact HB.out)⟩⟩
      case round =>
       clear H'
       try clear c1
       try clear p1
       try clear q1
       try clear hx1
       try clear c2
       try clear p2
       try clear c3
       try clear c4
       try clear c5
       try clear p5
       try clear q5
       try clear hx5
       try clear hf5
       try clear c6
       try clear c6b0
       try clear p6
       try clear hx6
       try clear hf6
       try clear c7
       try clear c8
       try clear c11
       try clear c12
       try clear c12b0
       try clear c12b1
       try clear p12
       try clear q12
       try clear hx12
       try clear c14
       try clear c15
       try clear c16
       try clear c17
       try clear c26
       try clear c26b0
       try clear c26b1
       try clear c28
       try clear c30
       try clear c37
       try clear c38
       try clear c40
       try clear c51
       try clear c51b0
       try clear c51b1
       try clear c52
       try clear c52b0
       try clear c52b1
       try clear c55
       try clear c55b0
       try clear c56
       try clear c56b0
       try clear c57
       try clear c57b0
       try clear c58
       try clear c58b0
       try clear c59
       try clear p59
       try clear q59
       try clear hx59
       try clear hf59
       try clear p64
       try clear c67
       try clear hx67
       try clear hf67
       try clear c71
       try clear c71b0
       try clear c71b1
       try clear hcz18_0
       try clear hcz18_1
       try clear hcz22_0
       try clear hcz22_1
       try clear hcz24_0
       try clear hcz24_1
       try clear hcz31_0
       try clear hcz31_1
       try clear hcz33_0
       try clear hcz33_1
       try clear hcz41_0
       try clear hcz41_1
       try clear hcz46_0
       try clear hcz46_1
       try clear hcz48_0
       try clear hcz48_1
       try clear hfz18_0
       try clear hfz18_1
       try clear hfz22_0
       try clear hfz22_1
       try clear hfz24_0
       try clear hfz24_1
       try clear hfz31_0
       try clear hfz31_1
       try clear hfz33_0
       try clear hfz33_1
       try clear hfz41_0
       try clear hfz41_1
       try clear hfz46_0
       try clear hfz46_1
       try clear hfz48_0
       try clear hfz48_1
       try clear hx1299_0
       try clear hx59_0
       try clear hx59_1
       try clear hx67_0
       try clear p1299
       try clear p2
       try clear p59
       try clear p6
       try clear q1299
       try clear q59
       obtain ⟨x3_2, x1001_2, x1002_2, HA, HK2, HO_3, HI0, HK, HB⟩ := hrel
       cases gk with
       | zero => exact absurd HA.out (by simp [spec_l02DrawSegs.l1])
       | succ k2 =>
        have H := HA.out
        clear HA
        simp only [spec_l02DrawSegs.l1] at H
        replace H := Option.bind_eq_some_iff.mp H
        obtain ⟨⟨t1301, t1302, t1303⟩, A730, H⟩ := H
        replace H : (if (x3_2.length : Int) < (wrap64 (300 + t1301)) then (if x3_2.length < 4398046511104 then (spec_l02DrawSegs.l1 k2 (x3_2 ++ [(⟨7, ([] : List Int)⟩ : S131)]) s0_0 t1302 t1303) else (none)) else (some (x3_2, t1302, t1303))) = some (r1, r2, r3) := H
        have A73 := zA A730
        clear A730
        by_cases c74 : (x3_2.length : Int) < (wrap64 (300 + t1301))
        ·rw [if_pos c74] at H
         have c74b0 : decide ((x3_2.length : Int) < (wrap64 (300 + t1301))) = true := zT c74
         clear c74
         by_cases c75 : x3_2.length < 4398046511104
         ·rw [if_pos c75] at H
          have LMc75 := zA c75
          clear c75
          obtain ⟨y1304, hy1304⟩ : ∃ y_ : List (S131), y_ = (x3_2 ++ [(⟨7, ([] : List Int)⟩ : S131)]) := ⟨_, rfl⟩
          replace H : (spec_l02DrawSegs.l1 k2 y1304 s0_0 t1302 t1303) = some (r1, r2, r3) := by first | (rw [hy1304]; with_reducible exact H) | (have H2_ := (zS _ _).symm.trans H; rw [hy1304]; with_reducible exact H2_) | (have H2_ := (zS _ _).symm.trans H; with_reducible exact H2_) | with_reducible exact H | (rw [hy1304]; exact H) | exact H
          have Ny1304 := zA hy1304
          clear hy1304
          have H' := zA H
          clear H
          obtain ⟨Ao76, co76, eo76⟩ := Kd.S_slice HO_3.out
          subst eo76
          go_wp2_with (first | ((with_reducible refine gate_callee (f := 85) rfl ?_); refine goesL_ (some 77) rfl rfl Try.func85 (by kernel_rfl) rfl #[.pointer (some ⟨g, 0, none⟩), .int .i64 2] rfl (by (try simp only [zU, zV, zW]); first | done | rfl | (simp only [zR, zQ]; rfl)) ?_; (with_reducible refine (spec_l01Cur_pick.calls g s0_0 x1001_2 x1002_2 2 t1301 t1302 t1303 w0 _ ?side1 ?side2 A73.out).mono ?_); (case side1 => repeat (first | (with_reducible first | exact HI0.out | apply IsS150.alloc | apply IsS150.drewN | apply IsS150.drew | apply IsS150.set_1 | apply IsS150.set_2) | exact HI0.out)); (case side2 => repeat (first | (with_reducible first | exact HB.out | apply zC | apply zB | apply zF | refine zE ?_ (IsS150.ge HI0.out)) | exact HB.out)); rintro e w77 ⟨rfl, hi, hb, hk⟩; refine ⟨_, rfl, ?_⟩; have n0_ := zA (yH (Kd.S_keep (IsS150.apartS (show IsS150 w0 _ g s0_0 x1001_2 x1002_2 from by repeat (first | (with_reducible first | exact HI0.out | apply IsS150.alloc | apply IsS150.drewN | apply IsS150.drew | apply IsS150.set_1 | apply IsS150.set_2) | exact HI0.out)) (by (with_reducible repeat (first | apply yE | apply yF | apply yG)); exact HO_3.out) (by decide)) hk (fun _ h => h.2)) (fun _ h => h.1)); have n1_ := zA (KeepBut.trans (by repeat (first | (with_reducible first | exact HK.out | apply zZ | apply yA | apply yB | apply yC) | exact HK.out)) hk (.inl rfl)); have n2_ := zA (hb); have n3_ := zA (hi); clear HO_3; clear HK; clear HB; clear HI0; have HO_3 := n0_; have HK := n1_; have HB := n2_; have HI0 := n3_; clear n0_ n1_ n2_ n3_; (try clear hb); (try clear hb2); (try clear hk); (try clear hi)) | ((with_reducible refine gate_builtin (b := .append) (xs := #[.tmp 80, .tmp 82]) rfl ?_); at_builtin; refine Kd.S_append k131 w.heap.size rfl (.tmp 80) (.tmp 82) 63 131 (.agg #[(.int .i64 0), (.slice none 0 0)]) 32 rfl Try.underlying63 info131 rfl (by decide) (by omega) (.slice Ao76 x3_2.length co76) x3_2 (⟨7, ([] : List Int)⟩ : S131) [.int .i64 7, .slice none 0 0] (fun _ => True) (fun _ => False) rfl rfl ?aP (fun k_ hk_ => hk_.elim) ?aF ?aO (Below.refl _ _) ?aS ?aL ?_; (case aP => exact k131_mkM _ _ _ (⟨7, ([] : List Int)⟩ : S131) (Kd.R_nil _ _ _ _ _)); (case aF => exact (fun _ _ => trivial)); (case aO => exact (by (with_reducible repeat (first | apply yE | apply yF | apply yG)); exact yH HO_3.out (fun k_ hk => ⟨trivial, fun e_ => e_⟩))); (case aS => exact (keep_size (w := w) (g := g) (row := none) (by repeat (first | (with_reducible first | exact HK.out | apply zZ | apply yA | apply yB | apply yC) | exact HK.out)))); (case aL => have := LMc75.out; omega); intro v1305 w78 ho hb hg hat; rw [← Ny1304.out] at ho; have n0_ := zA (IsS150.grown (by repeat (first | (with_reducible first | exact HI0.out | apply IsS150.alloc | apply IsS150.drewN | apply IsS150.drew | apply IsS150.set_1 | apply IsS150.set_2) | exact HI0.out)) hg (IsS150.own_neS HI0.out HO_3.out (by decide))); have n1_ := zA (below_weaken (by repeat (first | (with_reducible first | exact HB.out | apply zC | apply zB | apply zF | refine zE ?_ (IsS150.ge HI0.out)) | exact HB.out)) HL.out hb); have n2_ := zA (KeepBut.trans (by repeat (first | (with_reducible first | exact HK.out | apply zZ | apply yA | apply yB | apply yC) | exact HK.out)) (KeepBut.of_grown hg g) (Kd.S_base2 HO_3.out)); have n3_ := zA (ho); clear HI0; clear HB; clear HK; clear HO_3; have HI0 := n0_; have HB := n1_; have HK := n2_; have HO1306 := n3_; clear n0_ n1_ n2_ n3_; clear ho hb hg hat))
          go_roundg k2
          case measure => have := HK1.out; have := HK2.out; omega
          case rel => exact ⟨(y1304), (t1302), (t1303), H', ⟨by have := HK1.out; have := HK2.out; omega⟩, ⟨by (with_reducible repeat (first | apply yE | apply yF | apply yG)); exact HO1306.out⟩, ⟨by repeat (first | (with_reducible first | exact HI0.out | apply IsS150.alloc | apply IsS150.drewN | apply IsS150.drew | apply IsS150.set_1 | apply IsS150.set_2) | exact HI0.out)⟩, ⟨by repeat (first | (with_reducible first | exact HK.out | apply zZ | apply yA | apply yB | apply yC) | exact HK.out)⟩, ⟨by repeat (first | (with_reducible first | exact HB.out | apply zC | apply zB | apply zF | refine zE ?_ (IsS150.ge HI0.out)) | exact HB.out)⟩⟩
         ·rw [if_neg c75] at H
          exact absurd H (by simp)
        ·rw [if_neg c74] at H
         have c74b0 : decide ((x3_2.length : Int) < (wrap64 (300 + t1301))) = false := decide_eq_false c74
         clear c74
         simp only [Option.some.injEq, Prod.mk.injEq] at H
         obtain ⟨rfl, rfl, rfl⟩ := H
         obtain ⟨Ao79, co79, eo79⟩ := Kd.S_slice HO_3.out
         subst eo79
         go_wp2_with (first | ((with_reducible refine gate_callee (f := 85) rfl ?_); refine goesL_ (some 77) rfl rfl Try.func85 (by kernel_rfl) rfl #[.pointer (some ⟨g, 0, none⟩), .int .i64 2] rfl (by (try simp only [zU, zV, zW]); first | done | rfl | (simp only [zR, zQ]; rfl)) ?_; (with_reducible refine (spec_l01Cur_pick.calls g s0_0 x1001_2 x1002_2 2 t1301 t1302 t1303 w0 _ ?side1 ?side2 A73.out).mono ?_); (case side1 => repeat (first | (with_reducible first | exact HI0.out | apply IsS150.alloc | apply IsS150.drewN | apply IsS150.drew | apply IsS150.set_1 | apply IsS150.set_2) | exact HI0.out)); (case side2 => repeat (first | (with_reducible first | exact HB.out | apply zC | apply zB | apply zF | refine zE ?_ (IsS150.ge HI0.out)) | exact HB.out)); rintro e w80 ⟨rfl, hi, hb, hk⟩; refine ⟨_, rfl, ?_⟩; have n0_ := zA (yH (Kd.S_keep (IsS150.apartS (show IsS150 w0 _ g s0_0 x1001_2 x1002_2 from by repeat (first | (with_reducible first | exact HI0.out | apply IsS150.alloc | apply IsS150.drewN | apply IsS150.drew | apply IsS150.set_1 | apply IsS150.set_2) | exact HI0.out)) (by (with_reducible repeat (first | apply yE | apply yF | apply yG)); exact HO_3.out) (by decide)) hk (fun _ h => h.2)) (fun _ h => h.1)); have n1_ := zA (KeepBut.trans (by repeat (first | (with_reducible first | exact HK.out | apply zZ | apply yA | apply yB | apply yC) | exact HK.out)) hk (.inl rfl)); have n2_ := zA (hb); have n3_ := zA (hi); clear HO_3; clear HK; clear HB; clear HI0; have HO_3 := n0_; have HK := n1_; have HB := n2_; have HI0 := n3_; clear n0_ n1_ n2_ n3_; (try clear hb); (try clear hb2); (try clear hk); (try clear hi)))
         go_ret
         exact ⟨_, by first | rfl | (simp [errW_none, errW_some] <;> rfl) | (simp [*, errW_none, errW_some] <;> rfl), by (with_reducible repeat (first | apply yE | apply yF | apply yG)); exact HO_3.out, by repeat (first | (with_reducible first | exact HI0.out | apply IsS150.alloc | apply IsS150.drewN | apply IsS150.drew | apply IsS150.set_1 | apply IsS150.set_2) | exact HI0.out), by repeat (first | (with_reducible first | exact HB.out | apply zC | apply zB | apply zF | refine zE ?_ (IsS150.ge HI0.out)) | exact HB.out), by repeat (first | (with_reducible first | exact HK.out | apply zZ | apply yA | apply yB | apply yC) | exact HK.out)⟩
     ·rw [if_neg c71] at H
      have c71b0 : (t1287 == 1) = false := beq_eq_false_iff_ne.mpr c71
      have c71b1 : (t1287 != 1) = true := bne_iff_ne.mpr c71
      by_cases c81 : t1287 = 2
      ·rw [if_pos c81] at H
       have c81b0 : (t1287 == 2) = true := beq_iff_eq.mpr c81
       have c81b1 : (t1287 != 2) = false := bne_eq_false_iff_eq.mpr c81
       clear c81
       replace H := Option.bind_eq_some_iff.mp H
       obtain ⟨⟨t1307, t1308, t1309⟩, A820, H⟩ := H
       replace H : (if 0 ≤ (wrap64 (20000 + t1307)) then (if (wrap64 (20000 + t1307) : Int).toNat ≤ 281474976710656 then (if x3_1.length < 4398046511104 then (some ((x3_1 ++ [(⟨9, (List.replicate (wrap64 (20000 + t1307) : Int).toNat 0)⟩ : S131)]), t1308, t1309)) else (none)) else (none)) else (none)) = some (r1, r2, r3) := H
       have A82 := zA A820
       clear A820
       obtain ⟨ji83, hji83⟩ : ∃ j_ : Int, (wrap64 (20000 + t1307)) = j_ := ⟨_, rfl⟩
       replace H : (if 0 ≤ (ji83) then (if (ji83 : Int).toNat ≤ 281474976710656 then (if x3_1.length < 4398046511104 then (some ((x3_1 ++ [(⟨9, (List.replicate (ji83 : Int).toNat 0)⟩ : S131)]), t1308, t1309)) else (none)) else (none)) else (none)) = some (r1, r2, r3) := by first | (rw [hji83] at H; exact H) | (simp only [hji83] at H ⊢; exact H)
       (try rw [hji83] at A50)
       (try rw [hji83] at A82)
       have hji83w : (IntKind.i64.wrap (20000 + t1307)) = ji83 := (i64_w _).trans hji83
       by_cases c84 : 0 ≤ (ji83)
       ·rw [if_pos c84] at H
        have c84b0 := eq_true c84
        have c84b1 : decide (0 ≤ (ji83)) = true := zT c84
        clear c84
        by_cases c85 : (ji83 : Int).toNat ≤ 281474976710656
        ·rw [if_pos c85] at H
         have c85b0 := eq_true c85
         have c85b1 : decide ((ji83 : Int).toNat ≤ 281474976710656) = true := zT c85
         clear c85
         obtain ⟨y1310, hy1310⟩ : ∃ y_ : List Int, y_ = (List.replicate (ji83 : Int).toNat 0) := ⟨_, rfl⟩
         replace H : (if x3_1.length < 4398046511104 then (some ((x3_1 ++ [(⟨9, y1310⟩ : S131)]), t1308, t1309)) else (none)) = some (r1, r2, r3) := by first | (rw [hy1310]; with_reducible exact H) | (have H2_ := (zS _ _).symm.trans H; rw [hy1310]; with_reducible exact H2_) | (have H2_ := (zS _ _).symm.trans H; with_reducible exact H2_) | with_reducible exact H | (rw [hy1310]; exact H) | exact H
         have Ny1310 := zA hy1310
         clear hy1310
         by_cases c86 : x3_1.length < 4398046511104
         ·rw [if_pos c86] at H
          have LMc86 := zA c86
          clear c86
          obtain ⟨y1313, hy1313⟩ : ∃ y_ : List (S131), y_ = (x3_1 ++ [(⟨9, y1310⟩ : S131)]) := ⟨_, rfl⟩
          replace H : (some (y1313, t1308, t1309)) = some (r1, r2, r3) := by first | (rw [hy1313]; with_reducible exact H) | (have H2_ := (zS _ _).symm.trans H; rw [hy1313]; with_reducible exact H2_) | (have H2_ := (zS _ _).symm.trans H; with_reducible exact H2_) | with_reducible exact H | (rw [hy1313]; exact H) | exact H
          have Ny1313 := zA hy1313
          clear hy1313
          simp only [Option.some.injEq, Prod.mk.injEq] at H
          obtain ⟨rfl, rfl, rfl⟩ := H
          go_wp2_with (first | ((with_reducible refine gate_callee (f := 85) rfl ?_); refine goesL_ (some 53) rfl rfl Try.func85 (by kernel_rfl) rfl #[.pointer (some ⟨g, 0, none⟩), .int .i64 24] rfl (by (try simp only [zU, zV, zW]); first | done | rfl | (simp only [zR, zQ]; rfl)) ?_; (with_reducible refine (spec_l01Cur_pick.calls g s0_0 x1001_1 x1002_1 24 t1287 t1288 t1289 w0 _ ?side1 ?side2 A50.out).mono ?_); (case side1 => repeat (first | (with_reducible first | exact HI0.out | apply IsS150.alloc | apply IsS150.drewN | apply IsS150.drew | apply IsS150.set_1 | apply IsS150.set_2) | exact HI0.out)); (case side2 => repeat (first | (with_reducible first | exact HB.out | apply zC | apply zB | apply zF | refine zE ?_ (IsS150.ge HI0.out)) | exact HB.out)); rintro e w87 ⟨rfl, hi, hb, hk⟩; refine ⟨_, rfl, ?_⟩; have n0_ := zA (yH (Kd.S_keep (IsS150.apartS (show IsS150 w0 _ g s0_0 x1001_1 x1002_1 from by repeat (first | (with_reducible first | exact HI0.out | apply IsS150.alloc | apply IsS150.drewN | apply IsS150.drew | apply IsS150.set_1 | apply IsS150.set_2) | exact HI0.out)) (by (with_reducible repeat (first | apply yE | apply yF | apply yG)); exact HO_3.out) (by decide)) hk (fun _ h => h.2)) (fun _ h => h.1)); have n1_ := zA (KeepBut.trans (by repeat (first | (with_reducible first | exact HK.out | apply zZ | apply yA | apply yB | apply yC) | exact HK.out)) hk (.inl rfl)); have n2_ := zA (hb); have n3_ := zA (hi); clear HO_3; clear HK; clear HB; clear HI0; have HO_3 := n0_; have HK := n1_; have HB := n2_; have HI0 := n3_; clear n0_ n1_ n2_ n3_; (try clear hb); (try clear hb2); (try clear hk); (try clear hi)) | ((with_reducible refine gate_callee (f := 85) rfl ?_); refine goesL_ (some 88) rfl rfl Try.func85 (by kernel_rfl) rfl #[.pointer (some ⟨g, 0, none⟩), .int .i64 2] rfl (by (try simp only [zU, zV, zW]); first | done | rfl | (simp only [zR, zQ]; rfl)) ?_; (with_reducible refine (spec_l01Cur_pick.calls g s0_0 t1288 t1289 2 t1307 t1308 t1309 w0 _ ?side1 ?side2 A82.out).mono ?_); (case side1 => repeat (first | (with_reducible first | exact HI0.out | apply IsS150.alloc | apply IsS150.drewN | apply IsS150.drew | apply IsS150.set_1 | apply IsS150.set_2) | exact HI0.out)); (case side2 => repeat (first | (with_reducible first | exact HB.out | apply zC | apply zB | apply zF | refine zE ?_ (IsS150.ge HI0.out)) | exact HB.out)); rintro e w88 ⟨rfl, hi, hb, hk⟩; refine ⟨_, rfl, ?_⟩; have n0_ := zA (yH (Kd.S_keep (IsS150.apartS (show IsS150 w0 _ g s0_0 t1288 t1289 from by repeat (first | (with_reducible first | exact HI0.out | apply IsS150.alloc | apply IsS150.drewN | apply IsS150.drew | apply IsS150.set_1 | apply IsS150.set_2) | exact HI0.out)) (by (with_reducible repeat (first | apply yE | apply yF | apply yG)); exact HO_3.out) (by decide)) hk (fun _ h => h.2)) (fun _ h => h.1)); have n1_ := zA (KeepBut.trans (by repeat (first | (with_reducible first | exact HK.out | apply zZ | apply yA | apply yB | apply yC) | exact HK.out)) hk (.inl rfl)); have n2_ := zA (hb); have n3_ := zA (hi); clear HO_3; clear HK; clear HB; clear HI0; have HO_3 := n0_; have HK := n1_; have HB := n2_; have HI0 := n3_; clear n0_ n1_ n2_ n3_; (try clear hb); (try clear hb2); (try clear hk); (try clear hi)) | ((with_reducible refine gate_dst (N := 90) rfl ?_); refine Kd.R_make (Kd.int .u8) _ 5 rfl (N := 90) rfl 23 _ _ rfl ji83 rfl rfl Try.underlying23 (.int .u8 0) 1 info5 rfl (by decide) (by omega) 0 (ok := fun _ => True) (okp := fun _ => True) rfl (fun _ hk => hk) trivial (zI (by first | (with_reducible assumption) | assumption)) (Nat.le_trans (Nat.mul_le_mul_right _ (zI (by first | (with_reducible assumption) | assumption) : ji83.toNat ≤ 281474976710656)) (by omega)) (Below.refl _ _) (Nat.le_refl _) ?_; intro v1311 w89 ho90 hb hg_ hnew_; clear hg_ hnew_; (first | rw [← Ny1310.out] at ho90 | (simp only [Int.reduceToNat] at ho90; rw [← Ny1310.out] at ho90)); have n0_ := zA (Kd.S_elder' (by (with_reducible repeat (first | apply yE | apply yF | apply yG)); exact HO_3.out) (Kd.R_base ho90) hb); have n1_ := zA (Kd.R_lower ho90 (keep_size (w := w) (g := g) (row := none) (by repeat (first | (with_reducible first | exact HK.out | apply zZ | apply yA | apply yB | apply yC) | exact HK.out)))); have n2_ := zA (IsS150.below (by repeat (first | (with_reducible first | exact HI0.out | apply IsS150.alloc | apply IsS150.drewN | apply IsS150.drew | apply IsS150.set_1 | apply IsS150.set_2) | exact HI0.out)) hb); have n3_ := zA (KeepBut.trans (by repeat (first | (with_reducible first | exact HK.out | apply zZ | apply yA | apply yB | apply yC) | exact HK.out)) (KeepBut.of_below hb g none) (.inl rfl)); have n4_ := zA (below_step (by repeat (first | (with_reducible first | exact HB.out | apply zC | apply zB | apply zF | refine zE ?_ (IsS150.ge HI0.out)) | exact HB.out)) hb); clear HO_3; clear HI0; clear HK; clear HB; have HO_3 := n0_; have HO1312 := n1_; have HI0 := n2_; have HK := n3_; have HB := n4_; clear n0_ n1_ n2_ n3_ n4_; clear hb ho90; obtain ⟨Ao91, co91, eo91⟩ := Kd.R_slice HO1312.out; subst eo91) | ((with_reducible refine gate_builtin (b := .append) (xs := #[.tmp 86, .tmp 92]) rfl ?_); at_builtin; refine Kd.S_append k131 w.heap.size rfl (.tmp 86) (.tmp 92) 63 131 (.agg #[(.int .i64 0), (.slice none 0 0)]) 32 rfl Try.underlying63 info131 rfl (by decide) (by omega) u3 x3_1 (⟨9, y1310⟩ : S131) [.int .i64 9, .slice Ao91 y1310.length co91] (fun _ => True) (fun k_ => some k_ = (.slice Ao91 y1310.length co91 : Value).ownBlock) rfl rfl ?aP (fun k_ hk_ => ((zP (ok' := fun k_ => ((fun _ => True)) k_ ∧ some k_ ≠ (u3 : Value).ownBlock) (Kd.R_apart' (HO1312.out) (Kd.S_typed HO_3.out) (by decide)) (fun k_ hk => ⟨trivial, hk.2⟩))).1 k_ hk_.symm) ?aF ?aO (Below.refl _ _) ?aS ?aL ?_; (case aP => exact k131_mkM _ _ _ (⟨9, y1310⟩ : S131) (zP (Kd.R_tight rfl (zP (ok' := fun k_ => ((fun _ => True)) k_ ∧ some k_ ≠ (u3 : Value).ownBlock) (Kd.R_apart' (HO1312.out) (Kd.S_typed HO_3.out) (by decide)) (fun k_ hk => ⟨trivial, hk.2⟩))) (fun _ h_ => h_))); (case aF => exact (fun _ _ => trivial)); (case aO => exact (by (with_reducible repeat (first | apply yE | apply yF | apply yG)); exact yH HO_3.out (fun k_ hk => ⟨trivial, fun e_ => hk.2 e_⟩))); (case aS => exact (keep_size (w := w) (g := g) (row := none) (by repeat (first | (with_reducible first | exact HK.out | apply zZ | apply yA | apply yB | apply yC) | exact HK.out)))); (case aL => have := LMc86.out; omega); intro v1314 w92 ho hb hg hat; rw [← Ny1313.out] at ho; have n0_ := zA (IsS150.grown (by repeat (first | (with_reducible first | exact HI0.out | apply IsS150.alloc | apply IsS150.drewN | apply IsS150.drew | apply IsS150.set_1 | apply IsS150.set_2) | exact HI0.out)) hg (IsS150.own_neS HI0.out HO_3.out (by decide))); have n1_ := zA (below_weaken (by repeat (first | (with_reducible first | exact HB.out | apply zC | apply zB | apply zF | refine zE ?_ (IsS150.ge HI0.out)) | exact HB.out)) HL.out hb); have n2_ := zA (KeepBut.trans (by repeat (first | (with_reducible first | exact HK.out | apply zZ | apply yA | apply yB | apply yC) | exact HK.out)) (KeepBut.of_grown hg g) (Kd.S_base2 HO_3.out)); have n3_ := zA (ho); clear HI0; clear HB; clear HK; clear HO_3; clear HO1312; have HI0 := n0_; have HB := n1_; have HK := n2_; have HO1315 := n3_; clear n0_ n1_ n2_ n3_; clear ho hb hg hat))
          go_ret
          exact ⟨_, by first | rfl | (simp [errW_none, errW_some] <;> rfl) | (simp only [← hji83]; first | rfl | (simp [errW_none, errW_some] <;> rfl)) | (simp [*, errW_none, errW_some] <;> rfl), by (with_reducible repeat (first | apply yE | apply yF | apply yG)); exact HO1315.out, by repeat (first | (with_reducible first | exact HI0.out | apply IsS150.alloc | apply IsS150.drewN | apply IsS150.drew | apply IsS150.set_1 | apply IsS150.set_2) | exact HI0.out), by repeat (first | (with_reducible first | exact HB.out | apply zC | apply zB | apply zF | refine zE ?_ (IsS150.ge HI0.out)) | exact HB.out), by repeat (first | (with_reducible first | exact HK.out | apply zZ | apply yA | apply yB | apply yC) | exact HK.out)⟩
         ·rw [if_neg c86] at H
          exact absurd H (by simp)
        ·rw [if_neg c85] at H
         exact absurd H (by simp)
       ·rw [if_neg c84] at H
        exact absurd H (by simp)
      ·rw [if_neg c81] at H
       have c81b0 : (t1287 == 2) = false := beq_eq_false_iff_ne.mpr c81
       have c81b1 : (t1287 != 2) = true := bne_iff_ne.mpr c81
       simp only [Option.some.injEq, Prod.mk.injEq] at H
       obtain ⟨rfl, rfl, rfl⟩ := H
       go_wp2_with (first | ((with_reducible refine gate_callee (f := 85) rfl ?_); refine goesL_ (some 53) rfl rfl Try.func85 (by kernel_rfl) rfl #[.pointer (some ⟨g, 0, none⟩), .int .i64 24] rfl (by (try simp only [zU, zV, zW]); first | done | rfl | (simp only [zR, zQ]; rfl)) ?_; (with_reducible refine (spec_l01Cur_pick.calls g s0_0 x1001_1 x1002_1 24 t1287 t1288 t1289 w0 _ ?side1 ?side2 A50.out).mono ?_); (case side1 => repeat (first | (with_reducible first | exact HI0.out | apply IsS150.alloc | apply IsS150.drewN | apply IsS150.drew | apply IsS150.set_1 | apply IsS150.set_2) | exact HI0.out)); (case side2 => repeat (first | (with_reducible first | exact HB.out | apply zC | apply zB | apply zF | refine zE ?_ (IsS150.ge HI0.out)) | exact HB.out)); rintro e w93 ⟨rfl, hi, hb, hk⟩; refine ⟨_, rfl, ?_⟩; have n0_ := zA (yH (Kd.S_keep (IsS150.apartS (show IsS150 w0 _ g s0_0 x1001_1 x1002_1 from by repeat (first | (with_reducible first | exact HI0.out | apply IsS150.alloc | apply IsS150.drewN | apply IsS150.drew | apply IsS150.set_1 | apply IsS150.set_2) | exact HI0.out)) (by (with_reducible repeat (first | apply yE | apply yF | apply yG)); exact HO_3.out) (by decide)) hk (fun _ h => h.2)) (fun _ h => h.1)); have n1_ := zA (KeepBut.trans (by repeat (first | (with_reducible first | exact HK.out | apply zZ | apply yA | apply yB | apply yC) | exact HK.out)) hk (.inl rfl)); have n2_ := zA (hb); have n3_ := zA (hi); clear HO_3; clear HK; clear HB; clear HI0; have HO_3 := n0_; have HK := n1_; have HB := n2_; have HI0 := n3_; clear n0_ n1_ n2_ n3_; (try clear hb); (try clear hb2); (try clear hk); (try clear hi)))
       go_ret
       exact ⟨_, by first | rfl | (simp [errW_none, errW_some] <;> rfl) | (simp [*, errW_none, errW_some] <;> rfl), by (with_reducible repeat (first | apply yE | apply yF | apply yG)); exact HO_3.out, by repeat (first | (with_reducible first | exact HI0.out | apply IsS150.alloc | apply IsS150.drewN | apply IsS150.drew | apply IsS150.set_1 | apply IsS150.set_2) | exact HI0.out), by repeat (first | (with_reducible first | exact HB.out | apply zC | apply zB | apply zF | refine zE ?_ (IsS150.ge HI0.out)) | exact HB.out), by repeat (first | (with_reducible first | exact HK.out | apply zZ | apply yA | apply yB | apply yC) | exact HK.out)⟩
theorem SegsB.app {a b : List S131} (ha : SegsB a) (hb : SegsB b) : SegsB (a ++ b) := by
 intro s hs
 rcases List.mem_append.1 hs with h | h
 ·exact ha s h
 ·exact hb s h
theorem SegsB.one {m : Int} {d : List Int} (hd : BytesL d) (hl : d.length ≤ 30000) : SegsB [(⟨m, d⟩ : S131)] := fun s hs => by rw [List.mem_singleton.1 hs]; exact ⟨hd, hl⟩
def dsP (c : List Int) (m : Nat) (r : List S131 × Int × Int) : Prop := CurAt c m r.2.1 r.2.2 ∧ SegsB r.1 ∧ r.1.length ≤ 400
theorem dsP.up {c : List Int} {m m' : Nat} {r : List S131 × Int × Int} (h : dsP c m r) (hm : m ≤ m') : dsP c m' r := ⟨h.1.up hm, h.2⟩
theorem spec_l02DrawSegs.l1_ev (c : List Int) : ∀ (d m : Nat) (a s : Int) (x : List S131), CurAt c m a s → m + 2 * d ≤ 1000000 → SegsB x → 301 ≤ x.length + d → x.length + d ≤ 400 → d ≤ 400 → EvP (fun k => spec_l02DrawSegs.l1 k x c a s) (dsP c (m + 2 * d + 2)) := by
 intro d
 induction d with
 | zero =>
  intro m a s x hc hm hx h1 h2 _
  refine EvP.step (fun _ => by rw [spec_l02DrawSegs.l1]) ?_
  refine hc.pick (by omega) 2 (fun v a1 s1 h3 h4 hc1 => ?_)
  rw [wrap_in (300 + v) (by omega) (by omega)]
  refine EvP.ng (show ¬ ((x.length : Int) < 300 + v) by omega) ?_
  exact EvP.now ⟨hc1.up (by omega), hx, by simp only []; omega⟩
 | succ d ih =>
  intro m a s x hc hm hx h1 h2 _
  refine EvP.step (fun _ => by rw [spec_l02DrawSegs.l1]) ?_
  refine hc.pick (by omega) 2 (fun v a1 s1 h3 h4 hc1 => ?_)
  rw [wrap_in (300 + v) (by omega) (by omega)]
  refine EvP.either (fun _ => ?_) (fun _ => EvP.now ⟨hc1.up (by omega), hx, by simp only []; omega⟩)
  refine EvP.ip (by omega) ?_
  have hl : (x ++ [(⟨7, []⟩ : S131)]).length = x.length + 1 := by simp
  exact (ih (m + 2) a1 s1 _ hc1 (by omega) (hx.app (SegsB.one BytesL.nil (by simp))) (by omega) (by omega) (by omega)).mono (fun r hr => hr.up (by omega))
theorem spec_l02DrawSegs.l0_ev (c : List Int) : ∀ (j m : Nat) (a s w : Int) (x : List S131), CurAt c m a s → m + 70 * j ≤ 100000 → SegsB x → x.length + j ≤ 20 → EvP (fun k => spec_l02DrawSegs.l0 k x w (j : Int) c a s) (dsP c (m + 70 * j + 2000)) := by
 intro j
 induction j with
 | zero =>
  intro m a s w x hc hm hx hl
  refine EvP.step (fun _ => by rw [spec_l02DrawSegs.l0]) ?_
  refine EvP.ng (by omega) ?_
  refine hc.pick (by omega) 24 (fun v a1 s1 h0 h1 hc1 => ?_)
  refine EvP.either (fun _ => ?_) (fun _ => ?_)
  ·refine EvP.either (fun hp => ?_) (fun _ => EvP.now ⟨hc1.up (by omega), hx, by simp only []; omega⟩)
   refine hc1.pick (by omega) (x.length : Int) (fun v1 a2 s2 h2 h3 hc2 => ?_)
   refine EvP.some ?_
   refine hc2.pick (by omega) 9 (fun v2 a3 s3 h4 h5 hc3 => ?_)
   refine EvP.ip h4 ?_
   refine EvP.ip (show v2 < 9 by omega) ?_
   refine EvP.ip h2 ?_
   refine EvP.ip (show v1 < x.length by omega) ?_
   refine EvP.now ⟨hc3.up (by omega), ?_, by simp only [List.length_set]; omega⟩
   obtain ⟨i, rfl⟩ : ∃ i : Nat, v1 = i := ⟨v1.toNat, by omega⟩
   simp only []
   rw [rdS_nat x i (by omega)]
   intro t ht
   rcases List.mem_or_eq_of_mem_set ht with h | h
   ·exact hx t h
   ·have hi : i < x.length := by omega
    rw [h]; exact hx x[i] (List.getElem_mem hi)
  ·refine EvP.either (fun _ => ?_) (fun _ => ?_)
   ·exact (spec_l02DrawSegs.l1_ev c (350 - x.length) (m + 2) a1 s1 x hc1 (by omega) hx (by omega) (by omega) (by omega)).mono (fun r hr => hr.up (by omega))
   ·refine EvP.either (fun _ => ?_) (fun _ => EvP.now ⟨hc1.up (by omega), hx, by simp only []; omega⟩)
    refine hc1.pick (by omega) 2 (fun v2 a2 s2 h2 h3 hc2 => ?_)
    simp only []
    rw [wrap_in (20000 + v2) (by omega) (by omega)]
    refine EvP.ip (by omega) ?_
    refine EvP.ip (by omega) ?_
    refine EvP.ip (by omega) ?_
    refine EvP.now ⟨hc2.up (by omega), hx.app (SegsB.one ?_ (by rw [List.length_replicate]; omega)), by simp; omega⟩
    intro y hy
    rw [(List.mem_replicate.1 hy).2]
    omega
 | succ j ih =>
  intro m a s w x hc hm hx hl
  have jn : ∀ (kd : Int) (a1 s1 : Int), CurAt c (m + 2) a1 s1 → EvP (fun k => spec_l02DrawSegs.j1 k x ((j + 1 : Nat) : Int) kd c a1 s1) (dsP c (m + 70 * (j + 1) + 2000)) := by
   intro kd a1 s1 hc1
   have hw : wrap64 (((j + 1 : Nat) : Int) - 1) = (j : Int) := by rw [wrap_in _ (by omega) (by omega)]; omega
   have nx : ∀ (g : S131) (kd' a2 s2 : Int), BytesL g.f1 → g.f1.length ≤ 30000 → CurAt c (m + 70) a2 s2 → EvP (fun k => spec_l02DrawSegs.l0 k (x ++ [g]) kd' (j : Int) c a2 s2) (dsP c (m + 70 * (j + 1) + 2000)) := fun g kd' a2 s2 h1 h2 hc2 =>
    (ih (m + 70) a2 s2 kd' _ hc2 (by omega) (hx.app (SegsB.one h1 h2)) (by simp; omega)).mono (fun r hr => hr.up (by omega))
   refine EvP.step (fun _ => by rw [spec_l02DrawSegs.j1]) ?_
   rw [hw]
   refine EvP.either (fun _ => ?_) (fun _ => EvP.either (fun _ => ?_) (fun _ => ?_))
   ·refine hc1.pick (by omega) 239 (fun v a2 s2 _ _ hc2 => ?_)
    refine EvP.bind (spec_l01DrawBytes.ev c (m + 4) a2 s2 hc2 (by omega)) (fun r hr => ?_)
    obtain ⟨d, a3, s3⟩ := r
    obtain ⟨h1, h2, h3⟩ := hr
    simp only [] at h1 h2 h3
    refine EvP.ip (by omega) ?_
    exact nx _ _ a3 s3 h3 (by show d.length ≤ 30000; omega) (h1.up (by omega))
   ·refine hc1.pick (by omega) 8 (fun v a2 s2 _ _ hc2 => ?_)
    refine EvP.ip (by omega) ?_
    exact nx _ _ a2 s2 BytesL.nil (by simp) (hc2.up (by omega))
   ·refine EvP.bind (spec_l01DrawBytes.ev c (m + 2) a1 s1 hc1 (by omega)) (fun r hr => ?_)
    obtain ⟨d, a3, s3⟩ := r
    obtain ⟨h1, h2, h3⟩ := hr
    simp only [] at h1 h2 h3
    refine h1.pick (by omega) 256 (fun v a4 s4 _ _ hc4 => ?_)
    refine EvP.ip (show d.length < 140737488355328 by omega) ?_
    refine EvP.ip (by omega) ?_
    exact nx _ _ a4 s4 (h3.app (BytesL.one (show 0 ≤ v % 256 ∧ v % 256 ≤ 255 by omega))) (by show (d ++ [v % 256]).length ≤ 30000; simp; omega) (hc4.up (by omega))
  refine EvP.step (fun _ => by rw [spec_l02DrawSegs.l0]) ?_
  refine EvP.ip (by omega) ?_
  refine hc.pick (by omega) 3 (fun v a1 s1 h0 h1 hc1 => ?_)
  refine EvP.val (fits_val _ _) ?_
  exact EvP.either (fun _ => jn _ a1 s1 hc1) (fun _ => jn _ a1 s1 hc1)
theorem spec_l02DrawSegs.ev (c : List Int) (m : Nat) (a s : Int) (hc : CurAt c m a s) (hm : m ≤ 10) : EvP (fun k => spec_l02DrawSegs.f k c a s) (dsP c 3000) := by
 unfold spec_l02DrawSegs.f
 refine hc.size (by omega) 12 (by omega) (by omega) (fun n a1 s1 h0 h1 hc1 => ?_)
 obtain ⟨j, rfl⟩ : ∃ j : Nat, n = j := ⟨n.toNat, by omega⟩
 exact (spec_l02DrawSegs.l0_ev c j (m + 2) a1 s1 0 [] hc1 (by omega) (fun s hs => by simp at hs) (by simp; omega)).mono (fun r hr => hr.up (by omega))
end Go.Proofs.Ytcjjmfpkhhdmlaa.G

