-- Written by gp.py (a program of this session's, over the kit's print). Not trusted: Lean checks it.
import Derived.Test.YtnknolppoeacbaaG0h
import Derived.Test.YtnknolppoeacbaaG39
import Derived.Test.YtnknolppoeacbaaGLib
namespace Go.Proofs.Ytnknolppoeacbaa.G
open Go.RowKit Go.Proofs.YtnknolppoeacbaaW.PrintWords Go.Proofs.YtnknolppoeacbaaW.PrintLast Go.Proofs.YtnknolppoeacbaaW.PrintMore
attribute [local go_sem] max2_int min2_int max_two min_two max_three min_three max_four min_four   -- for this text's walks alone
set_option linter.unusedVariables false
set_option linter.unusedSimpArgs false

/-! ### spec_l21Px: function 35 -/
def spec_l21Px.l0 : Nat → List Int → Int → Option (Bool)
  | 0, _, _ => none
  | k + 1, x0, x3 => if x3 < 3 then (if 0 ≤ x3 then (if x3 < (x0.length : Int) then ((spec_l01Between.f (rd x0 x3) 0 255).bind fun t104 => (if t104 = true then (spec_l21Px.l0 k x0 (wrap64 (x3 + 1))) else (some false))) else (none)) else (none)) else (some true)
def spec_l21Px.f (k : Nat) (l0 : List Int) : Option (Bool) := if (l0.length : Int) = 3 then (spec_l21Px.l0 k l0 0) else (some false)
theorem spec_l21Px.mono_l : ∀ k, (∀ y0 y1, LeO (spec_l21Px.l0 k y0 y1) (spec_l21Px.l0 (k + 1) y0 y1))
  | 0 => fun _ _ r h => by simp [spec_l21Px.l0] at h
  | k + 1 => by
    have ih0 := spec_l21Px.mono_l k
    · intro y0 y1
      unfold spec_l21Px.l0
      repeat' first
      | (with_reducible exact ih0 _ _)
      | (with_reducible exact LeO.refl _)
      | (with_reducible exact LeO.none _)
      | (with_reducible refine LeO.ite ?_ ?_)
      | (with_reducible refine LeO.bind ?_ (fun _ => ?_))
      | exact ih0 _ _
      | exact LeO.none _
      | refine LeO.ite ?_ ?_
      | refine LeO.bind ?_ (fun _ => ?_)
theorem spec_l21Px.mono : ∀ a0 k, LeO (spec_l21Px.f k a0) (spec_l21Px.f (k + 1) a0) := by
  intro a0 k
  have ih0 := spec_l21Px.mono_l k
  unfold spec_l21Px.f
  repeat' first
      | (with_reducible exact ih0 _ _)
      | (with_reducible exact LeO.refl _)
      | (with_reducible exact LeO.none _)
      | (with_reducible refine LeO.ite ?_ ?_)
      | (with_reducible refine LeO.bind ?_ (fun _ => ?_))
      | exact ih0 _ _
      | exact LeO.none _
      | refine LeO.ite ?_ ?_
      | refine LeO.bind ?_ (fun _ => ?_)
set_option maxHeartbeats 8000000 in
set_option maxRecDepth 100000 in
theorem spec_l21Px.calls (k : Nat) (A0 : Option Addr) (c0 : Nat) (l0 : List Int) (r : Bool) (w : World) (hr0 : Kd.C (Kd.int .i64) w A0 l0.length l0) (hc0 : l0.length ≤ c0) (h : spec_l21Px.f k l0 = some r) :
    Calls Try.prog 35 #[.slice A0 l0.length c0] w fun e w' => e = .returned (.bool r) ∧ Drawn0 w w' := by
  have HR0 := Aside0.mk hr0
  have HC0 := Aside0.mk hc0
  clear hr0 hc0
  have H : (if (l0.length : Int) = 3 then (spec_l21Px.l0 k l0 0) else (some false)) = some r := h
  clear h
  by_cases c2 : (l0.length : Int) = 3
  · rw [if_pos c2] at H
    have c2b0 : ((l0.length : Int) == 3) = true := beq_iff_eq.mpr c2
    have c2b1 : ((l0.length : Int) != 3) = false := bne_eq_false_iff_eq.mpr c2
    clear c2
    have H' := Aside0.mk H
    clear H
    go_enter Try.func35, Try.ntmps35
    go_wp2
    go_loopg [3] k (fun kq v3 w' => ∃ (x3_1 : Int), v3 = .int .i64 x3_1 ∧ Aside0 (spec_l21Px.l0 kq l0 x3_1 = some r) ∧ Aside0 (kq ≤ k) ∧ Drawn0 w w')
    case atStart => exact ⟨(0), (by first | rfl | (simp; done) | (simp [*]; done)), H', ⟨Nat.le_refl _⟩, by repeat (first | exact Drawn0.refl _ | apply Drawn0.step)⟩
    case round =>
      clear H'
      try clear c2
      try clear c2b0
      try clear c2b1
      try clear p2
      obtain ⟨x3_1, rfl, HA, HK1, ⟨m1, rfl⟩⟩ := hrel
      cases gk with
      | zero => exact absurd HA.out (by simp [spec_l21Px.l0])
      | succ k1 =>
        have H := HA.out
        clear HA
        simp only [spec_l21Px.l0] at H
        by_cases c3 : x3_1 < 3
        · rw [if_pos c3] at H
          have c3b0 : decide (x3_1 < 3) = true := decide_eq_true c3
          clear c3
          by_cases c4 : 0 ≤ x3_1
          · rw [if_pos c4] at H
            have c4b0 : decide (0 ≤ x3_1) = true := decide_eq_true c4
            clear c4
            by_cases c5 : x3_1 < (l0.length : Int)
            · rw [if_pos c5] at H
              have c5b0 : decide (x3_1 < (l0.length : Int)) = true := decide_eq_true c5
              clear c5
              replace H := Option.bind_eq_some_iff.mp H
              obtain ⟨t104, A60, H⟩ := H
              replace H : (if t104 = true then (spec_l21Px.l0 k1 l0 (wrap64 (x3_1 + 1))) else (some false)) = some r := H
              have A6 := Aside0.mk A60
              clear A60
              by_cases c7 : t104 = true
              · subst c7
                have H1 : (spec_l21Px.l0 k1 l0 (wrap64 (x3_1 + 1))) = some r := by rw [if_pos rfl] at H; exact H
                clear H
                have H := H1
                clear H1
                have H' := Aside0.mk H
                clear H
                have p103 : 0 ≤ (x3_1 : Int) := of_decide_eq_true (by first | (with_reducible assumption) | assumption)
                have q103 : x3_1 < (l0.length : Int) := of_decide_eq_true (by first | (with_reducible assumption) | assumption)
                obtain ⟨ad103, e103, hx103_0⟩ := Kd.at_int HR0.out x3_1 p103 q103
                cases e103
                replace p103 := eq_true p103
                replace q103 := eq_true q103
                go_wp2_with (first | ((with_reducible refine gate_callee (f := 39) rfl ?_); refine goesL_ (some 15) rfl rfl Try.func39 (by kernel_rfl) rfl #[.int .i64 (rd l0 x3_1), .int .i64 0, .int .i64 255] rfl (by (try simp only [List.map_toArray, List.map_cons, List.map_nil]); first | done | rfl | (simp only [List.length_drop, List.length_take]; rfl)) ?_; (with_reducible refine (spec_l01Between.calls (rd l0 x3_1) 0 255 true _ A6.out).mono ?_); rintro e w' ⟨rfl, ⟨nd, rfl⟩⟩; refine ⟨_, rfl, ?_⟩))
                go_roundg k1
                case measure => have := HK1.out; omega
                case rel => exact ⟨(wrap64 (x3_1 + 1)), (by first | rfl | (simp; done) | (simp [*]; done)), H', ⟨by have := HK1.out; omega⟩, by repeat (first | exact Drawn0.refl _ | apply Drawn0.step)⟩
              · replace c7 := Bool.eq_false_iff.mpr c7
                subst c7
                have H1 : (some false) = some r := by rw [if_neg (show ¬ (false = true) by decide)] at H; exact H
                clear H
                have H := H1
                clear H1
                obtain rfl := Option.some.inj H
                have p103 : 0 ≤ (x3_1 : Int) := of_decide_eq_true (by first | (with_reducible assumption) | assumption)
                have q103 : x3_1 < (l0.length : Int) := of_decide_eq_true (by first | (with_reducible assumption) | assumption)
                obtain ⟨ad103, e103, hx103_0⟩ := Kd.at_int HR0.out x3_1 p103 q103
                cases e103
                replace p103 := eq_true p103
                replace q103 := eq_true q103
                go_wp2_with (first | ((with_reducible refine gate_callee (f := 39) rfl ?_); refine goesL_ (some 15) rfl rfl Try.func39 (by kernel_rfl) rfl #[.int .i64 (rd l0 x3_1), .int .i64 0, .int .i64 255] rfl (by (try simp only [List.map_toArray, List.map_cons, List.map_nil]); first | done | rfl | (simp only [List.length_drop, List.length_take]; rfl)) ?_; (with_reducible refine (spec_l01Between.calls (rd l0 x3_1) 0 255 false _ A6.out).mono ?_); rintro e w' ⟨rfl, ⟨nd, rfl⟩⟩; refine ⟨_, rfl, ?_⟩))
                go_ret
                exact ⟨by first | rfl | (simp; done) | (simp [*]; done), by repeat (first | exact Drawn0.refl _ | apply Drawn0.step)⟩
            · rw [if_neg c5] at H
              exact absurd H (by simp)
          · rw [if_neg c4] at H
            exact absurd H (by simp)
        · rw [if_neg c3] at H
          have c3b0 : decide (x3_1 < 3) = false := decide_eq_false c3
          clear c3
          obtain rfl := Option.some.inj H
          go_wp2
          go_ret
          exact ⟨by first | rfl | (simp; done) | (simp [*]; done), by repeat (first | exact Drawn0.refl _ | apply Drawn0.step)⟩
  · rw [if_neg c2] at H
    have c2b0 : ((l0.length : Int) == 3) = false := beq_eq_false_iff_ne.mpr c2
    have c2b1 : ((l0.length : Int) != 3) = true := bne_iff_ne.mpr c2
    obtain rfl := Option.some.inj H
    go_enter Try.func35, Try.ntmps35
    go_wp2
    go_ret
    exact ⟨by first | rfl | (simp; done) | (simp [*]; done), by repeat (first | exact Drawn0.refl _ | apply Drawn0.step)⟩

theorem spec_between (x lo hi : Int) : spec_l01Between.f x lo hi = some (decide (lo ≤ x) && decide (x ≤ hi)) := by
  unfold spec_l01Between.f
  by_cases h1 : x ≥ lo
  · rw [if_pos h1]; simp [ge_iff_le.mp h1]
  · rw [if_neg h1]; have : ¬ lo ≤ x := h1; simp [this]
theorem spec_l21Px.ev (l : List Int) : Ev (fun k => spec_l21Px.f k l) (isPx l) := by
  unfold isPx allW
  unfold spec_l21Px.f
  by_cases hl : l.length = 3
  · refine Ev.ip (by omega) ?_
    match l, hl with
    | [a, b, c], _ =>
      have r0 : rd [a, b, c] 0 = a := rfl
      have r1 : rd [a, b, c] 1 = b := rfl
      have r2 : rd [a, b, c] 2 = c := rfl
      have w0 : wrap64 (0 + 1) = 1 := by unfold wrap64; omega
      have w1 : wrap64 (1 + 1) = 2 := by unfold wrap64; omega
      have w2 : wrap64 (2 + 1) = 3 := by unfold wrap64; omega
      refine Ev.step (fun _ => by rw [spec_l21Px.l0]) (Ev.ip (by omega) (Ev.ip (by omega) (Ev.ip (by simp) ?_)))
      rw [r0, w0]
      refine Ev.bind (Ev.c (spec_between _ _ _)) ?_
      by_cases ha : (decide (0 ≤ a) && decide (a ≤ 255)) = true
      · refine Ev.ip ha (Ev.step (fun _ => by rw [spec_l21Px.l0]) (Ev.ip (by omega) (Ev.ip (by omega) (Ev.ip (by simp) ?_))))
        rw [r1, w1]
        refine Ev.bind (Ev.c (spec_between _ _ _)) ?_
        by_cases hb : (decide (0 ≤ b) && decide (b ≤ 255)) = true
        · refine Ev.ip hb (Ev.step (fun _ => by rw [spec_l21Px.l0]) (Ev.ip (by omega) (Ev.ip (by omega) (Ev.ip (by simp) ?_))))
          rw [r2, w2]
          refine Ev.bind (Ev.c (spec_between _ _ _)) ?_
          by_cases hc : (decide (0 ≤ c) && decide (c ≤ 255)) = true
          · refine Ev.ip hc (Ev.step (fun _ => by rw [spec_l21Px.l0]) (Ev.ng (by omega) (Ev.eq (Ev.now _) ?_)))
            simp only [List.all_cons, List.all_nil, ha, hb, hc]; rfl
          · refine Ev.ng hc (Ev.eq (Ev.now _) ?_)
            simp only [List.all_cons, List.all_nil, ha, hb, Bool.eq_false_iff.2 hc]; rfl
        · refine Ev.ng hb (Ev.eq (Ev.now _) ?_)
          simp only [List.all_cons, List.all_nil, ha, Bool.eq_false_iff.2 hb]; rfl
      · refine Ev.ng ha (Ev.eq (Ev.now _) ?_)
        simp only [List.all_cons, List.all_nil, Bool.eq_false_iff.2 ha]; rfl
  · exact Ev.ng (by omega) (Ev.eq (Ev.now _) (by simp [hl]))

end Go.Proofs.Ytnknolppoeacbaa.G
