-- Written by gp.py (a program of this session's, over the kit's print). Not trusted: Lean checks it.
import Derived.Test.YtcjjmfpkhhdmlaaG0h
import Derived.Test.YtcjjmfpkhhdmlaaG22
import Derived.Test.YtcjjmfpkhhdmlaaGLib
namespace Go.Proofs.Ytcjjmfpkhhdmlaa.G
open Go.RowKit Go.Proofs.YtcjjmfpkhhdmlaaW.PrintWords Go.Proofs.YtcjjmfpkhhdmlaaW.PrintLast Go.Proofs.YtcjjmfpkhhdmlaaW.PrintMore
attribute [local go_sem] max2_int min2_int max_two min_two max_three min_three max_four min_four   -- for this text's walks alone
set_option linter.unusedVariables false
set_option linter.unusedSimpArgs false

/-! ### laws_markSegS: function 62 -/
/-- how many numbers segments have, and one each for their marks -/
def totS (l : List S131) : Nat := (l.map fun s => 1 + s.f1.length).sum
theorem totS_cons (x : S131) (l : List S131) : totS (x :: l) = 1 + x.f1.length + totS l := by simp [totS]
theorem totS_take (l : List S131) (i : Nat) (h : i < l.length) : totS (l.take (i + 1)) = totS (l.take i) + (1 + l[i].f1.length) := by
  unfold totS
  rw [List.take_succ_eq_append_getElem h, List.map_append, List.sum_append]; simp only [List.map_cons, List.map_nil, List.sum_cons, List.sum_nil, Nat.add_zero]
theorem totS_le (l : List S131) (h2 : ∀ x ∈ l, x.f1.length ≤ 1048576) : totS l ≤ l.length * 1048577 := by
  unfold totS
  induction l with
  | nil => simp
  | cons x l ih =>
    have h3 := ih (fun y hy => h2 y (List.mem_cons_of_mem _ hy))
    have h4 := h2 x List.mem_cons_self
    simp only [List.map_cons, List.sum_cons, List.length_cons]
    omega
/-- the segments, marked from a on -/
def markL : Int → List S131 → List S131
  | _, [] => []
  | a, x :: t => ⟨a, risingB (a + 1) x.f1.length⟩ :: markL (a + 1 + x.f1.length) t
theorem markL_length (l : List S131) : ∀ a, (markL a l).length = l.length := by
  induction l with
  | nil => intro a; rfl
  | cons x t ih => intro a; simp [markL, ih]
theorem markL_snoc (l : List S131) (x : S131) : ∀ a, markL a (l ++ [x]) = markL a l ++ [⟨a + totS l, risingB (a + totS l + 1) x.f1.length⟩] := by
  induction l with
  | nil => intro a; simp [markL, totS]
  | cons y t ih =>
    intro a
    simp only [List.cons_append, markL, ih]
    rw [show a + 1 + (y.f1.length : Int) + (totS t : Int) = a + (totS (y :: t) : Int) by rw [totS_cons]; push_cast; omega]
theorem markL_take (l : List S131) (a : Int) (i : Nat) (h : i < l.length) : markL a (l.take (i + 1)) = markL a (l.take i) ++ [⟨a + totS (l.take i), risingB (a + totS (l.take i) + 1) l[i].f1.length⟩] := by
  rw [List.take_succ_eq_append_getElem h, markL_snoc]
theorem markL_append (l m : List S131) : ∀ a, markL a (l ++ m) = markL a l ++ markL (a + totS l) m := by
  induction l with
  | nil => intro a; simp [markL, totS]
  | cons y t ih =>
    intro a
    simp only [List.cons_append, markL, ih]
    rw [show a + 1 + (y.f1.length : Int) + (totS t : Int) = a + (totS (y :: t) : Int) by rw [totS_cons]; push_cast; omega]
theorem laws_markSegS.calls (ok : Nat → Prop) (v : Value) (l : List S131) (a : Int) (w0 w : World) (hB : Below w0.heap.size w0 w) (hS : Kd.S k131 131 w w0.heap.size ok v l)
    (h0 : 0 ≤ a) (h1 : a ≤ 562949953421312) (hl : l.length ≤ 1048576) (hx : ∀ x ∈ l, x.f1.length ≤ 1048576) :
    Calls Try.prog 62 #[v, .int .i64 a] w fun e w' => e = .returned (.int .i64 (a + totS l)) ∧ Kd.S k131 131 w' w0.heap.size ok v (markL a l) ∧ Below w0.heap.size w0 w' ∧ Kept w w' ok := by
  have HS := Aside0.mk hS
  have HB := Aside0.mk hB
  have HX := Aside0.mk hx
  obtain ⟨A, c, e1⟩ := Kd.S_slice hS
  subst e1
  clear hS hB hx
  go_enter Try.func62, Try.ntmps62
  go_wp2
  go_loopw [1, 5] (fun v1 v5 w' => ∃ i : Nat, v5 = .int .i64 i ∧ i ≤ l.length ∧ v1 = .int .i64 (a + totS (l.take i)) ∧ Aside0 (Kd.S k131 131 w' w0.heap.size ok (.slice A l.length c) (markL a (l.take i) ++ l.drop i)) ∧ Aside0 (Below w0.heap.size w0 w') ∧ Aside0 (Kept w w' ok)) (fun v1 v5 w' => l.length - (intOf v5).toNat)
  case atStart => exact ⟨0, rfl, by omega, by simp [totS], ⟨by simpa [markL] using HS.out⟩, HB, ⟨Kept.refl _ _⟩⟩
  case round =>
    obtain ⟨i, rfl, hi, rfl, HR, HB2, HK⟩ := hrel
    have hrl : (markL a (l.take i) ++ l.drop i).length = l.length := by rw [List.length_append, markL_length, List.length_take, List.length_drop]; omega
    by_cases hlt : i < l.length
    · have hi0 := HX.out _ (List.getElem_mem hlt)
      have hel : (markL a (l.take i) ++ l.drop i).getD i z131 = l[i] := by
        rw [List.getD_eq_getElem?_getD, List.getElem?_append_right (by rw [markL_length, List.length_take]; omega), markL_length, List.length_take, Nat.min_eq_left hi, Nat.sub_self, List.getElem?_drop, Nat.add_zero, List.getElem?_eq_getElem hlt]; rfl
      obtain ⟨g, cap, e2, hgb, hgl, _⟩ := Kd.S_form HR.out (by omega)
      injection e2 with e2 e4 e3
      subst e2; subst e3
      clear e4
      obtain ⟨oki, cs, hcl, hM, hcc, hfr, hoki, hH⟩ := Kd.S_elem HR.out z131 (i : Int) (by omega) (by omega)
      rw [Int.toNat_natCast, hel] at hM
      obtain ⟨ve, rfl, hRe⟩ := k131_openM hM
      have hx0 := hcc 0 _ rfl
      have hx1 := hcc 1 ve rfl
      have hf0 := hfr 0
      rw [show k131.sz = 2 from rfl, Int.toNat_natCast] at hx0 hx1 hf0
      rw [Nat.add_zero] at hx0 hf0
      have htl : totS (l.take i) ≤ i * 1048577 := by
        have := totS_le (l.take i) (fun x hx => HX.out x (List.mem_of_mem_take hx))
        rw [List.length_take, Nat.min_eq_left hi] at this
        exact this
      have htl2 : i * 1048577 ≤ 1048576 * 1048577 := Nat.mul_le_mul_right _ (by omega)
      obtain ⟨tt, htt⟩ : ∃ tt : Int, tt = a + totS (l.take i) := ⟨_, rfl⟩
      have hseg := Kd.H_seg hH (by omega) (by omega) (seg := [.int .i64 tt]) (j := 0) (show 0 + 1 ≤ 2 by omega) (by simp [Value.oneCell'])
      rw [show k131.sz = 2 from rfl, Int.toNat_natCast, Nat.add_zero] at hseg
      have hH1 : Kd.H k131 131 (wr.setCell ⟨g, i * 2, none⟩ (.int .i64 tt)) w0.heap.size ok (.slice (some ⟨g, 0, none⟩) l.length c) (markL a (l.take i) ++ l.drop i) (i : Int) oki [.int .i64 tt, ve] := hseg.1
      have hRe1 : Kd.R (Kd.int .u8) 5 (wr.setCell ⟨g, i * 2, none⟩ (.int .i64 tt)) w0.heap.size oki ve l[i].f1 := Kd.R_far hRe (fun k hk => (hoki k hk).2) _
      have hB1 : Below w0.heap.size w0 (wr.setCell ⟨g, i * 2, none⟩ (.int .i64 tt)) := below_set HB2.out hgb
      obtain ⟨k, hk⟩ := (laws_markByteS.E l[i].f1 (tt + 1) (by omega) (by omega) hi0).rounds
      have HKK := Aside0.mk hk
      have HRE := Aside0.mk hRe1
      have HH := Aside0.mk hH1
      have HB1 := Aside0.mk hB1
      have HOKI := Aside0.mk hoki
      have HTT := Aside0.mk htt
      have HT1 := Aside0.mk (totS_take l i hlt)
      have HMT := Aside0.mk (markL_take l a i hlt)
      have hw1 : wrap64 (tt + 1) = tt + 1 := wrap_in (tt + 1) (by omega) (by omega)
      rw [← htt]
      clear hk hRe hRe1 hH hH1 hB1 hseg hoki hcc hcl hfr htl htl2 htt hi0 hgb hgl hM hel hrl
      have HOKG := Aside0.mk (show ok g from (Kd.S_R HR.out).1 g rfl)
      go_wp2_with (first | (go_at_call 22; rw [hw1]; (with_reducible refine (laws_markByteS.calls k oki ve l[i].f1 (tt + 1) _ _ w0 _ ?side1 ?side2 HKK.out).mono ?_); (case side1 => exact HB1.out); (case side2 => exact HRE.out); rintro e w11 ⟨rfl, hR1, hB2, hK1⟩; have HR1 := Aside0.mk hR1; have HB3 := Aside0.mk hB2; have HK3 := Aside0.mk hK1; clear hR1 hB2 hK1))
      go_roundw
      case rel =>
        refine ⟨i + 1, by go_num, by omega, ?_, ⟨?_⟩, HB3, ⟨?_⟩⟩
        · rw [HT1.out, HTT.out]; congr 1; push_cast; omega
        · have h4 : Kd.R (Kd.int .u8) 5 w11 w0.heap.size oki ve (risingB (tt + 1) l[i].f1.length) := Kd.R_reok rfl HR1.out (fun k hk => HRE.out.1 k hk)
          have h5 := Kd.H_back (Kd.H_step HH.out (fun k _ hn hlt => HK3.out.2 k hlt hn)) (k131_mkM w11 w0.heap.size oki ⟨tt, risingB (tt + 1) l[i].f1.length⟩ h4) (fun _ hk => hk)
          rw [Int.toNat_natCast] at h5
          rw [HMT.out, ← HTT.out]
          have e5 : (markL a (l.take i) ++ l.drop i).set i ⟨tt, risingB (tt + 1) l[i].f1.length⟩ = (markL a (l.take i) ++ [⟨tt, risingB (tt + 1) l[i].f1.length⟩]) ++ l.drop (i + 1) := by
            have hml : (markL a (l.take i)).length = i := by rw [markL_length, List.length_take]; omega
            rw [List.drop_eq_getElem_cons hlt, List.set_append_right _ _ (by omega), hml, Nat.sub_self, List.set_cons_zero, List.append_assoc]
            rfl
          rw [← e5]
          exact h5
        · have hKs : Kept wr (wr.setCell ⟨g, i * 2, none⟩ (.int .i64 tt)) ok := ⟨by simp, fun k hk hn => Below.heap_setCell wr ⟨g, i * 2, none⟩ _ k (fun e => hn (by rw [e]; exact HOKG.out))⟩
          exact (HK.out.then_ hKs (fun k hk => .inl hk)).then_ HK3.out (fun k hk => .inl (HOKI.out k hk).1)
      case measure => simp [intOf]; omega
    · obtain rfl : i = l.length := by omega
      go_wp2
      go_ret
      exact ⟨by simp, by simpa using HR.out, HB2.out, HK.out⟩

end Go.Proofs.Ytcjjmfpkhhdmlaa.G
