-- Written by gp.py (a program of this session's, over the kit's print). Not trusted: Lean checks it.
import Derived.Test.YtcjjmfpkhhdmlaaG0h
import Derived.Test.YtcjjmfpkhhdmlaaG81
import Derived.Test.YtcjjmfpkhhdmlaaGLib
namespace Go.Proofs.Ytcjjmfpkhhdmlaa.G
open Go.RowKit Go.Proofs.YtcjjmfpkhhdmlaaW.PrintWords Go.Proofs.YtcjjmfpkhhdmlaaW.PrintLast Go.Proofs.YtcjjmfpkhhdmlaaW.PrintMore
attribute [local go_sem] max2_int min2_int max_two min_two max_three min_three max_four min_four   -- for this text's walks alone
set_option linter.unusedVariables false
set_option linter.unusedSimpArgs false

/-! ### impl_areSides: function 91 -/
def impl_areSides.f (a0 : Int) (a1 : Int) : Option (Bool) := (impl_within.f a0 1 1024).bind fun t257 => (if t257 = true then ((impl_within.f a1 1 1024).bind fun t258 => (if t258 = true then (some (decide ((wrap64 (a0 * a1)) ≤ 131072))) else (some false))) else (some false))
set_option maxHeartbeats 8000000 in
set_option maxRecDepth 100000 in
theorem impl_areSides.calls (a0 : Int) (a1 : Int) (r : Bool) (w : World) (h : impl_areSides.f a0 a1 = some r) :
    Calls Try.prog 91 #[.int .i64 a0, .int .i64 a1] w fun e w' => e = .returned (.bool r) ∧ Drawn0 w w' := by
  have H : ((impl_within.f a0 1 1024).bind fun t257 => (if t257 = true then ((impl_within.f a1 1 1024).bind fun t258 => (if t258 = true then (some (decide ((wrap64 (a0 * a1)) ≤ 131072))) else (some false))) else (some false))) = some r := h
  clear h
  replace H := Option.bind_eq_some_iff.mp H
  obtain ⟨t257, A30, H⟩ := H
  replace H : (if t257 = true then ((impl_within.f a1 1 1024).bind fun t258 => (if t258 = true then (some (decide ((wrap64 (a0 * a1)) ≤ 131072))) else (some false))) else (some false)) = some r := H
  have A3 := Aside0.mk A30
  clear A30
  by_cases c4 : t257 = true
  · subst c4
    have H1 : ((impl_within.f a1 1 1024).bind fun t258 => (if t258 = true then (some (decide ((wrap64 (a0 * a1)) ≤ 131072))) else (some false))) = some r := by rw [if_pos rfl] at H; exact H
    clear H
    have H := H1
    clear H1
    replace H := Option.bind_eq_some_iff.mp H
    obtain ⟨t258, A50, H⟩ := H
    replace H : (if t258 = true then (some (decide ((wrap64 (a0 * a1)) ≤ 131072))) else (some false)) = some r := H
    have A5 := Aside0.mk A50
    clear A50
    by_cases c6 : t258 = true
    · subst c6
      have H1 : (some (decide ((wrap64 (a0 * a1)) ≤ 131072))) = some r := by rw [if_pos rfl] at H; exact H
      clear H
      have H := H1
      clear H1
      obtain rfl := Option.some.inj H
      go_enter Try.func91, Try.ntmps91
      go_wp2_with (first | ((with_reducible refine gate_callee (f := 81) rfl ?_); refine goesL_ (some 6) rfl rfl Try.func81 (by kernel_rfl) rfl #[.int .i64 a0, .int .i64 1, .int .i64 1024] rfl (by (try simp only [List.map_toArray, List.map_cons, List.map_nil]); first | done | rfl | (simp only [List.length_drop, List.length_take]; rfl)) ?_; (with_reducible refine (impl_within.calls a0 1 1024 true _ A3.out).mono ?_); rintro e w' ⟨rfl, ⟨nd, rfl⟩⟩; refine ⟨_, rfl, ?_⟩) | (go_at_call 81; (with_reducible refine (impl_within.calls a1 1 1024 true _ A5.out).mono ?_); rintro e w' ⟨rfl, ⟨nd, rfl⟩⟩))
      go_ret
      exact ⟨by first | rfl | (simp; done) | (simp [*]; done), by repeat (first | exact Drawn0.refl _ | apply Drawn0.step)⟩
    · replace c6 := Bool.eq_false_iff.mpr c6
      subst c6
      have H1 : (some false) = some r := by rw [if_neg (show ¬ (false = true) by decide)] at H; exact H
      clear H
      have H := H1
      clear H1
      obtain rfl := Option.some.inj H
      go_enter Try.func91, Try.ntmps91
      go_wp2_with (first | ((with_reducible refine gate_callee (f := 81) rfl ?_); refine goesL_ (some 6) rfl rfl Try.func81 (by kernel_rfl) rfl #[.int .i64 a0, .int .i64 1, .int .i64 1024] rfl (by (try simp only [List.map_toArray, List.map_cons, List.map_nil]); first | done | rfl | (simp only [List.length_drop, List.length_take]; rfl)) ?_; (with_reducible refine (impl_within.calls a0 1 1024 true _ A3.out).mono ?_); rintro e w' ⟨rfl, ⟨nd, rfl⟩⟩; refine ⟨_, rfl, ?_⟩) | (go_at_call 81; (with_reducible refine (impl_within.calls a1 1 1024 false _ A5.out).mono ?_); rintro e w' ⟨rfl, ⟨nd, rfl⟩⟩))
      go_ret
      exact ⟨by first | rfl | (simp; done) | (simp [*]; done), by repeat (first | exact Drawn0.refl _ | apply Drawn0.step)⟩
  · replace c4 := Bool.eq_false_iff.mpr c4
    subst c4
    have H1 : (some false) = some r := by rw [if_neg (show ¬ (false = true) by decide)] at H; exact H
    clear H
    have H := H1
    clear H1
    obtain rfl := Option.some.inj H
    go_enter Try.func91, Try.ntmps91
    go_wp2_with (first | ((with_reducible refine gate_callee (f := 81) rfl ?_); refine goesL_ (some 6) rfl rfl Try.func81 (by kernel_rfl) rfl #[.int .i64 a0, .int .i64 1, .int .i64 1024] rfl (by (try simp only [List.map_toArray, List.map_cons, List.map_nil]); first | done | rfl | (simp only [List.length_drop, List.length_take]; rfl)) ?_; (with_reducible refine (impl_within.calls a0 1 1024 false _ A3.out).mono ?_); rintro e w' ⟨rfl, ⟨nd, rfl⟩⟩; refine ⟨_, rfl, ?_⟩))
    go_ret
    exact ⟨by first | rfl | (simp; done) | (simp [*]; done), by repeat (first | exact Drawn0.refl _ | apply Drawn0.step)⟩

/-- sides that a plane may have, and a plane that is right -/
def sidesOk (w h : Int) : Bool := (decide (1 ≤ w) && decide (w ≤ 1024)) && ((decide (1 ≤ h) && decide (h ≤ 1024)) && decide (w * h ≤ 131072))
def planeOk (l : List Int) (w h : Int) : Bool := sidesOk w h && (decide ((l.length : Int) = w * h) && allW 0 4095 l)
theorem mul_1024 (w h : Int) (h1 : 1 ≤ w) (h2 : w ≤ 1024) (h3 : 1 ≤ h) (h4 : h ≤ 1024) : 1 ≤ w * h ∧ w * h ≤ 1048576 := by
  constructor
  · have := Int.mul_le_mul h1 h3 (by omega) (by omega); omega
  · have := Int.mul_le_mul h2 h4 (by omega) (by omega); omega
theorem sides_of {w h : Int} (e : sidesOk w h = true) : 1 ≤ w ∧ w ≤ 1024 ∧ 1 ≤ h ∧ h ≤ 1024 ∧ w * h ≤ 131072 := by
  simp only [sidesOk, Bool.and_eq_true, decide_eq_true_eq] at e
  exact ⟨e.1.1, e.1.2, e.2.1.1, e.2.1.2, e.2.2⟩
theorem plane_of {l : List Int} {w h : Int} (e : planeOk l w h = true) : sidesOk w h = true ∧ (l.length : Int) = w * h ∧ allW 0 4095 l = true := by
  simp only [planeOk, Bool.and_eq_true, decide_eq_true_eq] at e
  exact e
theorem impl_areSides.val (w h : Int) : impl_areSides.f w h = some (sidesOk w h) := by
  unfold impl_areSides.f sidesOk
  rw [impl_within.val, Option.bind_some]
  by_cases h1 : (decide (1 ≤ w) && decide (w ≤ 1024)) = true
  · rw [if_pos h1, impl_within.val, Option.bind_some]
    by_cases h2 : (decide (1 ≤ h) && decide (h ≤ 1024)) = true
    · have a1 : 1 ≤ w ∧ w ≤ 1024 := by simpa using h1
      have a2 : 1 ≤ h ∧ h ≤ 1024 := by simpa using h2
      have := mul_1024 w h a1.1 a1.2 a2.1 a2.2
      rw [if_pos h2, wrap_in (w * h) (by omega) (by omega), h1, h2, Bool.true_and, Bool.true_and]
    · rw [if_neg h2, Bool.eq_false_iff.2 h2, Bool.false_and, Bool.and_false]
  · rw [if_neg h1, Bool.eq_false_iff.2 h1, Bool.false_and]

end Go.Proofs.Ytcjjmfpkhhdmlaa.G
