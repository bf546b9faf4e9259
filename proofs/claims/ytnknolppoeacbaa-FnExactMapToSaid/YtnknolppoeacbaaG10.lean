-- Written by gp.py (a program of this session's, over the kit's print). Not trusted: Lean checks it.
import Derived.Test.YtnknolppoeacbaaG0h
import Derived.Test.YtnknolppoeacbaaG15
import Derived.Test.YtnknolppoeacbaaGLib
namespace Go.Proofs.Ytnknolppoeacbaa.G
open Go.RowKit Go.Proofs.YtnknolppoeacbaaW.PrintWords Go.Proofs.YtnknolppoeacbaaW.PrintLast Go.Proofs.YtnknolppoeacbaaW.PrintMore
attribute [local go_sem] max2_int min2_int max_two min_two max_three min_three max_four min_four   -- for this text's walks alone
set_option linter.unusedVariables false
set_option linter.unusedSimpArgs false

/-! ### laws_toIntSS: function 10 -/
/-- rows that fit -/
def fitSS (l : List (List Int)) : Bool := decide (l.length ≤ 11728124029610) && l.all fun x => decide (x.length ≤ 35184372088832)
def laws_toIntSS.f (l0 : List (List Int)) : Option (List (List Int)) := if fitSS l0 then some l0 else none
def SSI (w : World) (base : Nat) (v : Value) (xs : List (List Int)) : Prop := Kd.S (Kd.slice 3 (Kd.int .i64)) 28 w base (fun _ => True) v xs
theorem laws_toIntSS.calls (A0 : Option Addr) (c0 : Nat) (l0 : List (List Int)) (r : List (List Int)) (w : World) (hr0 : Kd.C (Kd.slice 3 (Kd.int .i64)) w A0 l0.length l0) (hc0 : l0.length ≤ c0) (h : laws_toIntSS.f l0 = some r) :
    Calls Try.prog 10 #[.slice A0 l0.length c0] w fun e w' => ∃ v0_ : Value, e = .returned (v0_) ∧ Kd.S (Kd.slice 3 (Kd.int .i64)) 28 w' w.heap.size (fun _ => True) v0_ r ∧ Below w.heap.size w w' := by
  unfold laws_toIntSS.f at h
  split at h
  · rename_i hf
    obtain rfl := Option.some.inj h
    clear h
    unfold fitSS at hf
    rw [Bool.and_eq_true, decide_eq_true_eq, List.all_eq_true] at hf
    obtain ⟨hm, hfit0⟩ := hf
    have hfit := Aside0.mk hfit0
    clear hfit0
    have HR0 := Aside0.mk hr0
    have HC0 := Aside0.mk hc0
    clear hr0 hc0
    go_enter Try.func10, Try.ntmps10
    go_wp2_with (first | ((with_reducible refine gate_dst (N := 7) rfl ?_); refine Kd.S_make (Kd.slice 3 (Kd.int .i64)) _ 28 rfl (N := 7) rfl 22 _ _ rfl (l0.length : Int) rfl rfl Try.underlying22 (.slice none 0 0) 24 info28 rfl (by decide) (by omega) [] (ok := fun _ => True) (okp := fun _ => True) ⟨_, rfl, Kd.R_nil _ _ _ _ _⟩ (fun _ hk => hk) trivial (by omega) (by omega) (Below.refl _ _) (Nat.le_refl _) ?_; intro v113 w4 ho5 hb hg_ hnew_; clear hg_ hnew_; have HO := Aside0.mk ho5; have HB := Aside0.mk hb; clear ho5 hb))
    go_loopw [4] (fun v4 w' => ∃ i : Nat, v4 = .int .i64 i ∧ i ≤ l0.length ∧ Aside0 (SSI w' w.heap.size v113 (l0.take i ++ List.replicate (l0.length - i) [])) ∧ Aside0 (Below w.heap.size w w')) (fun v4 w' => l0.length - (intOf v4).toNat)
    case atStart => exact ⟨0, rfl, by omega, ⟨by simpa [SSI] using HO.out⟩, HB⟩
    case round =>
      clear HO HB
      obtain ⟨i, rfl, hi, HO, HB⟩ := hrel
      by_cases hlt : i < l0.length
      · obtain ⟨ad, A1, c1, e1, hx, hl, hi1⟩ := at_L1 HR0.out (i : Int) (by omega) (by omega)
        cases e1
        rw [Int.toNat_natCast] at hx
        replace hx := (HB.out.cell (World.block_lt_of_cell? w _ hx)).trans hx
        have hgl : rd_L1 l0 i = l0[i] := by simp [rd_L1, hlt]
        have HGL := Aside0.mk hgl
        obtain ⟨k, hk⟩ := laws_toIntS.ev (rd_L1 l0 i) (by rw [hgl]; exact of_decide_eq_true (hfit.out _ (List.getElem_mem _)))
        have HK := Aside0.mk hk
        have HR1 := Aside0.mk hi1
        have HC1 := Aside0.mk hl
        have hln : (l0.take i ++ List.replicate (l0.length - i) ([] : List Int)).length = l0.length := by simp; omega
        have HLN := Aside0.mk hln
        clear hi1 hl hk hgl
        obtain ⟨g, cap, e2, hgb, hgl, _⟩ := Kd.S_form HO.out (by omega)
        rw [hln] at e2
        subst e2
        have HGB := Aside0.mk hgb
        clear hln hgb hgl
        go_wp2_with (first | (go_at_call 15; (with_reducible refine (laws_toIntS.calls k _ _ (rd_L1 l0 i) _ _ ?side1 ?side2 HK.out).mono ?_); (case side1 => exact Kd.C_below HR1.out HB.out); (case side2 => exact HC1.out); rintro e w11 ⟨v114, rfl, ho0, hb⟩; obtain ⟨A2, c2, e3⟩ := Kd.R_slice ho0; subst e3; have HO2 := Aside0.mk ho0; have HB2 := Aside0.mk hb; have HS2 := Aside0.mk (Kd.S_below HO.out hb); clear ho0 hb; obtain ⟨⟨u, hxc⟩, hxf⟩ := S_cell rfl HS2.out [] (i : Int) (by omega) (by omega); rw [Int.toNat_natCast] at hxc hxf))
        go_roundw
        case rel =>
          refine ⟨i + 1, by go_num, by omega, ⟨?_⟩, ⟨below_set (HB.out.trans (HB2.out.mono (HB.out.size))) HGB.out⟩⟩
          have hp := S_put1 (x' := l0[i]) rfl HO.out HB2.out [] (i : Int) (by omega) (by omega) (Kd.M_row (Kd.R_mono (Kd.R_lower (Kd.R_bound (HGL.out ▸ HO2.out)) HB.out.size) (fun k hk => hk.2.1)))
          rw [Int.toNat_natCast, fill_set _ _ _ hlt] at hp
          rw [HGL.out]
          exact hp
        case measure => simp [intOf]; omega
      · obtain rfl : i = l0.length := by omega
        go_wp2
        go_ret
        exact ⟨_, rfl, by simpa [SSI] using HO.out, HB.out⟩
  · cases h
theorem laws_toIntSS.val (l0 : List (List Int)) (h1 : l0.length ≤ 1048576) (h2 : ∀ x ∈ l0, x.length ≤ 1048576) : laws_toIntSS.f l0 = some l0 := by
  unfold laws_toIntSS.f
  rw [if_pos]
  simp only [fitSS, Bool.and_eq_true, decide_eq_true_eq, List.all_eq_true]
  exact ⟨by omega, fun x hx => by have := h2 x hx; omega⟩

end Go.Proofs.Ytnknolppoeacbaa.G
