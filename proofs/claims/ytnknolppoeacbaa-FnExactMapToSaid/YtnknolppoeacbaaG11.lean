-- Written by gp.py (a program of this session's, over the kit's print). Not trusted: Lean checks it.
import Derived.Test.YtnknolppoeacbaaG0h
import Derived.Test.YtnknolppoeacbaaG38
import Derived.Test.YtnknolppoeacbaaGLib
namespace Go.Proofs.Ytnknolppoeacbaa.G
open Go.RowKit Go.Proofs.YtnknolppoeacbaaW.PrintWords Go.Proofs.YtnknolppoeacbaaW.PrintLast Go.Proofs.YtnknolppoeacbaaW.PrintMore
attribute [local go_sem] max2_int min2_int max_two min_two max_three min_three max_four min_four   -- for this text's walks alone
set_option linter.unusedVariables false
set_option linter.unusedSimpArgs false

/-! ### impl_PixelsOk: function 11 -/
theorem pix_lit (A0 : Option Addr) (c0 : Nat) (l0 : List Int) (w : World) (hr0 : Kd.C (Kd.int .i64) w A0 l0.length l0) (hc0 : l0.length ≤ c0) :
    Calls Try.prog 37 #[.slice A0 l0.length c0] w fun e w' => e = .returned (.bool (!isPx l0)) ∧ Drawn0 w w' := by
  obtain ⟨k, h⟩ := impl_isColour.ev l0
  have A3 := Aside0.mk h
  clear h
  have HR0 := Aside0.mk hr0
  have HC0 := Aside0.mk hc0
  clear hr0 hc0
  go_enter Try.func37, Try.ntmps37
  go_wp2_with (first | (go_at_call 38; (with_reducible refine (impl_isColour.calls k _ _ l0 _ _ ?side1 ?side2 A3.out).mono ?_); (case side1 => exact HR0.out); (case side2 => exact HC0.out); rintro e w' ⟨rfl, ⟨nd, rfl⟩⟩))
  go_ret
  exact ⟨rfl, ⟨_, rfl⟩⟩
def IdxPost (l0 : List (List Int)) (w : World) (e : Ending) (w' : World) : Prop := (∃ r : Int, e = .returned (.int .i64 r) ∧ (0 ≤ r ↔ l0.all isPx = false)) ∧ Drawn0 w w'
theorem idx_lit (A0 : Option Addr) (c0 : Nat) (l0 : List (List Int)) (w : World) (hr0 : Kd.C (Kd.slice 3 (Kd.int .i64)) w A0 l0.length l0) (hc0 : l0.length ≤ c0) (hm : l0.length ≤ 4096) :
    Calls Try.prog 52 #[.slice A0 l0.length c0, .func (.func 37) #[] #[]] w (IdxPost l0 w) := by
  have HR0 := Aside0.mk hr0
  have HC0 := Aside0.mk hc0
  clear hr0 hc0
  go_enter Try.func52, Try.ntmps52
  go_wp2
  go_loopw [8] (fun i w' => ∃ k : Nat, i = .int .i64 k ∧ k ≤ l0.length ∧ Aside0 ((l0.take k).all isPx = true) ∧ Drawn0 w w') (fun i w' => l0.length - (intOf i).toNat)
  case atStart => exact ⟨0, rfl, by omega, ⟨by simp⟩, Drawn0.refl _⟩
  case round =>
    obtain ⟨k, rfl, hk, HA, ⟨m1, rfl⟩⟩ := hrel
    by_cases hlt : k < l0.length
    · obtain ⟨ad, A1, c1, e1, hx, hl, hi⟩ := at_L1 HR0.out (k : Int) (by omega) (by omega)
      cases e1
      rw [Int.toNat_natCast] at hx
      have HR1 := Aside0.mk hi
      have HC1 := Aside0.mk hl
      clear hi hl
      have hgl : rd_L1 l0 k = l0[k] := by simp [rd_L1, hlt]
      cases hp : isPx (rd_L1 l0 k)
      · have HP := Aside0.mk hp
        have HG := Aside0.mk hgl
        clear hp hgl
        go_wp2_with (first | (go_at_call 37; (with_reducible refine (pix_lit _ _ (rd_L1 l0 k) _ ?side1 ?side2).mono ?_); (case side1 => exact HR1.out); (case side2 => exact HC1.out); (rw [HP.out]); rintro e w' ⟨rfl, ⟨nd, rfl⟩⟩))
        go_ret
        exact ⟨⟨_, rfl, by simp only [Int.natCast_nonneg, true_iff]; rw [Bool.eq_false_iff]; intro h; rw [List.all_eq_true] at h; have := h l0[k] (List.getElem_mem _); rw [← HG.out, HP.out] at this; simp at this⟩, by repeat (first | exact Drawn0.refl _ | apply Drawn0.step)⟩
      · have HP := Aside0.mk hp
        have HG := Aside0.mk hgl
        clear hp hgl
        go_wp2_with (first | (go_at_call 37; (with_reducible refine (pix_lit _ _ (rd_L1 l0 k) _ ?side1 ?side2).mono ?_); (case side1 => exact HR1.out); (case side2 => exact HC1.out); (rw [HP.out]); rintro e w' ⟨rfl, ⟨nd, rfl⟩⟩))
        go_roundw
        case rel => exact ⟨k + 1, by go_num, by omega, ⟨by rw [List.take_succ_eq_append_getElem hlt, List.all_append, HA.out]; simp [← HG.out, HP.out]⟩, by repeat (first | exact Drawn0.refl _ | apply Drawn0.step)⟩
        case measure => simp [intOf]; omega
    · obtain rfl : k = l0.length := by omega
      go_wp2
      go_ret
      exact ⟨⟨_, rfl, by have := HA.out; rw [List.take_length] at this; simp [this]⟩, by repeat (first | exact Drawn0.refl _ | apply Drawn0.step)⟩
theorem cont_lit (A0 : Option Addr) (c0 : Nat) (l0 : List (List Int)) (w : World) (hr0 : Kd.C (Kd.slice 3 (Kd.int .i64)) w A0 l0.length l0) (hc0 : l0.length ≤ c0) (hm : l0.length ≤ 4096) :
    Calls Try.prog 36 #[.slice A0 l0.length c0, .func (.func 37) #[] #[]] w fun e w' => e = .returned (.bool (!l0.all isPx)) ∧ Drawn0 w w' := by
  have HR0 := Aside0.mk hr0
  have HC0 := Aside0.mk hc0
  clear hr0 hc0
  have key : ∀ r : Int, (0 ≤ r ↔ l0.all isPx = false) → (0 ≤ r) = (l0.all isPx = false) := fun r h => propext h
  cases ha : l0.all isPx
  all_goals
    have HAA := Aside0.mk ha
    clear ha key
    go_enter Try.func36, Try.ntmps36
    go_wp2_with (first | (go_at_call 52; (with_reducible refine (idx_lit _ _ l0 _ ?side1 ?side2 hm).mono ?_); (case side1 => exact HR0.out); (case side2 => exact HC0.out); rintro e w' ⟨⟨r, rfl, hq⟩, ⟨nd, rfl⟩⟩; rw [HAA.out] at hq; (first | have hq2 : 0 ≤ r := hq.2 rfl | have hq2 : ¬ 0 ≤ r := fun z => absurd (hq.1 z) (by decide)); clear hq))
    go_ret
    exact ⟨by simp [hq2], ⟨_, rfl⟩⟩
def impl_PixelsOk.f (l0 : List (List Int)) : Option Bool := some (decide (l0.length ≤ 4096) && l0.all isPx)
theorem impl_PixelsOk.calls (A0 : Option Addr) (c0 : Nat) (l0 : List (List Int)) (r : Bool) (w : World) (hr0 : Kd.C (Kd.slice 3 (Kd.int .i64)) w A0 l0.length l0) (hc0 : l0.length ≤ c0) (h : impl_PixelsOk.f l0 = some r) :
    Calls Try.prog 11 #[.slice A0 l0.length c0] w fun e w' => e = .returned (.bool r) ∧ Drawn0 w w' := by
  have HR0 := Aside0.mk hr0
  have HC0 := Aside0.mk hc0
  obtain rfl := Option.some.inj h
  clear hr0 hc0 h
  by_cases hm : l0.length ≤ 4096
  · have hm1 : decide ((l0.length : Int) ≤ 4096) = true := decide_eq_true (by omega)
    cases ha : l0.all isPx
    all_goals
      have HAA := Aside0.mk ha
      clear ha
      go_enter Try.func11, Try.ntmps11
      go_wp2_with (first | (go_at_call 36; (with_reducible refine (cont_lit _ _ l0 _ ?side1 ?side2 hm).mono ?_); (case side1 => exact HR0.out); (case side2 => exact HC0.out); rw [HAA.out]; rintro e w' ⟨rfl, ⟨nd, rfl⟩⟩))
      go_ret
      exact ⟨by simp [hm], ⟨_, rfl⟩⟩
  · have hm1 : decide ((l0.length : Int) ≤ 4096) = false := decide_eq_false (by omega)
    go_enter Try.func11, Try.ntmps11
    go_wp2
    go_ret
    exact ⟨by simp [hm], ⟨0, rfl⟩⟩

end Go.Proofs.Ytnknolppoeacbaa.G
