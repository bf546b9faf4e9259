-- Written by gp.py (a program of this session's, over the kit's print). Not trusted: Lean checks it.
import Derived.Test.YtnknolppoeacbaaG0h
import Derived.Test.YtnknolppoeacbaaG20
import Derived.Test.YtnknolppoeacbaaGLib
namespace Go.Proofs.Ytnknolppoeacbaa.G
open Go.RowKit Go.Proofs.YtnknolppoeacbaaW.PrintWords Go.Proofs.YtnknolppoeacbaaW.PrintLast Go.Proofs.YtnknolppoeacbaaW.PrintMore
attribute [local go_sem] max2_int min2_int max_two min_two max_three min_three max_four min_four   -- for this text's walks alone
set_option linter.unusedVariables false
set_option linter.unusedSimpArgs false

/-! ### laws_markIntSS: function 33 -/
/-- how many numbers lists have -/
def total (l : List (List Int)) : Nat := (l.map List.length).sum
theorem total_take (l : List (List Int)) (i : Nat) (h : i < l.length) : total (l.take (i + 1)) = total (l.take i) + l[i].length := by
  unfold total
  rw [List.take_succ_eq_append_getElem h, List.map_append, List.sum_append]; simp only [List.map_cons, List.map_nil, List.sum_cons, List.sum_nil, Nat.add_zero]
theorem total_le (l : List (List Int)) (h2 : ∀ x ∈ l, x.length ≤ 1048576) : total l ≤ l.length * 1048576 := by
  unfold total
  induction l with
  | nil => simp
  | cons x l ih =>
    have h3 := ih (fun y hy => h2 y (List.mem_cons_of_mem _ hy))
    have h4 := h2 x List.mem_cons_self
    simp only [List.map_cons, List.sum_cons, List.length_cons]
    omega
theorem laws_markIntSS.calls (ok : Nat → Prop) (v : Value) (l : List (List Int)) (a : Int) (w0 w : World) (hB : Below w0.heap.size w0 w) (hS : Kd.S (Kd.slice 3 (Kd.int .i64)) 28 w w0.heap.size ok v l)
    (h0 : 0 ≤ a) (h1 : a ≤ 562949953421312) (hl : l.length ≤ 1048576) (hx : ∀ x ∈ l, x.length ≤ 1048576) :
    Calls Try.prog 33 #[v, .int .i64 a] w fun e w' => (e = .returned (.int .i64 (a + total l)) ∧ ∃ r, Kd.S (Kd.slice 3 (Kd.int .i64)) 28 w' w0.heap.size ok v r) ∧ Below w0.heap.size w0 w' ∧ Kept w w' ok := by
  have HS := Aside0.mk hS
  have HB := Aside0.mk hB
  have HX := Aside0.mk hx
  have HT := Aside0.mk (total_le l hx)
  obtain ⟨A, c, e1⟩ := Kd.S_slice hS
  subst e1
  clear hS hB hx
  go_enter Try.func33, Try.ntmps33
  go_wp2
  go_loopw [1, 5] (fun v1 v5 w' => ∃ i : Nat, v5 = .int .i64 i ∧ i ≤ l.length ∧ v1 = .int .i64 (a + total (l.take i)) ∧ (∃ r, Aside0 (Kd.S (Kd.slice 3 (Kd.int .i64)) 28 w' w0.heap.size ok (.slice A l.length c) r) ∧ Aside0 (r.map List.length = l.map List.length)) ∧ Aside0 (Below w0.heap.size w0 w') ∧ Aside0 (Kept w w' ok)) (fun v1 v5 w' => l.length - (intOf v5).toNat)
  case atStart => exact ⟨0, rfl, by omega, by simp [total], ⟨l, HS, ⟨rfl⟩⟩, HB, ⟨Kept.refl _ _⟩⟩
  case round =>
    obtain ⟨i, rfl, hi, rfl, ⟨r, HR, HL⟩, HB2, HK⟩ := hrel
    have hrl : r.length = l.length := by simpa using congrArg List.length HL.out
    by_cases hlt : i < l.length
    · have hi0 := HX.out _ (List.getElem_mem hlt)
      have hel : (r.getD i []).length = l[i].length := by
        have h3 := HL.out
        have h4 : (r.map List.length)[i]? = (l.map List.length)[i]? := by rw [h3]
        rw [List.getElem?_map, List.getElem?_map, List.getElem?_eq_getElem (by omega : i < r.length), List.getElem?_eq_getElem hlt] at h4
        simp at h4
        simp [List.getElem?_eq_getElem (by omega : i < r.length), h4]
      obtain ⟨g, cap, e2, hgb, hgl, _⟩ := Kd.S_form HR.out (by omega)
      injection e2 with e2 e4 e3
      subst e2; subst e3
      clear e4
      obtain ⟨oki, cs, hcl, hM, hcc, hoki, hH⟩ := Kd.S_lend HR.out [] (i : Int) (by omega) (by omega)
      obtain ⟨ve, rfl, hRe⟩ := hM
      have hx := hcc 0 ve rfl
      rw [show (Kd.slice 3 (Kd.int .i64)).sz = 1 from rfl, Nat.mul_one, Nat.add_zero, Int.toNat_natCast] at hx
      rw [Int.toNat_natCast] at hRe
      obtain ⟨xe, hxe⟩ : ∃ xe, xe = r.getD i [] := ⟨_, rfl⟩
      rw [← hxe] at hRe hel
      clear hxe
      have htl : total (l.take i) ≤ i * 1048576 := by
        have := total_le (l.take i) (fun x hx => HX.out x (List.mem_of_mem_take hx))
        rw [List.length_take, Nat.min_eq_left hi] at this
        exact this
      have htl2 : i * 1048576 ≤ 1048576 * 1048576 := Nat.mul_le_mul_right _ (by omega)
      obtain ⟨k, hk⟩ := (laws_markIntS.E xe (a + total (l.take i)) (by omega) (by omega) (by omega)).rounds
      have HKK := Aside0.mk hk
      have HRE := Aside0.mk hRe
      have HH := Aside0.mk hH
      have HOKI := Aside0.mk hoki
      have HEL := Aside0.mk hel
      have HRL := Aside0.mk hrl
      have ht1 : total (l.take (i + 1)) = total (l.take i) + l[i].length := total_take l i hlt
      have HT1 := Aside0.mk ht1
      obtain ⟨tt, htt⟩ : ∃ tt : Int, tt = a + total (l.take i) := ⟨_, rfl⟩
      have HTT := Aside0.mk htt
      rw [← htt] at HKK ⊢
      clear hk hRe hH hoki hel hrl hcc hcl htl htl2 ht1 htt hi0 hgb hgl
      go_wp2_with (first | (go_at_call 20; (with_reducible refine (laws_markIntS.calls k oki ve xe tt _ _ w0 _ ?side1 ?side2 HKK.out).mono ?_); (case side1 => exact HB2.out); (case side2 => exact HRE.out); rintro e w11 ⟨rfl, hR1, hB1, hK1⟩; have HR1 := Aside0.mk hR1; have HB3 := Aside0.mk hB1; have HK3 := Aside0.mk hK1; clear hR1 hB1 hK1))
      go_roundw
      case rel =>
        refine ⟨i + 1, by go_num, by omega, ?_, ⟨r.set i (rising tt xe.length), ⟨?_⟩, ⟨?_⟩⟩, HB3, ⟨?_⟩⟩
        · rw [HT1.out, HEL.out, HTT.out]; simp [Int.add_assoc]
        · have h4 : Kd.R (Kd.int .i64) 3 w11 w0.heap.size oki ve (rising tt xe.length) := Kd.R_reok rfl HR1.out (fun k hk => HRE.out.1 k hk)
          have h5 := Kd.H_back (Kd.H_step HH.out (fun k _ hn hlt => HK3.out.2 k hlt hn)) (Kd.M_row h4) (fun _ hk => hk)
          rwa [Int.toNat_natCast] at h5
        · rw [List.map_set, rising_length, HEL.out, HL.out]
          apply List.ext_getElem (by simp)
          intro n h6 h7
          rw [List.getElem_set]
          split
          · rename_i h8; subst h8; simp
          · rfl
        · exact HK.out.then_ HK3.out (fun k hk => .inl (HOKI.out k hk).1)
      case measure => simp [intOf]; omega
    · obtain rfl : i = l.length := by omega
      go_wp2
      go_ret
      exact ⟨⟨by simp, r, HR.out⟩, HB2.out, HK.out⟩

end Go.Proofs.Ytnknolppoeacbaa.G
