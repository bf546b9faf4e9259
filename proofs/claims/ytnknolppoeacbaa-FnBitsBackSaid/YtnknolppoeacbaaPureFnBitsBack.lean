/- FnBitsBack (P1): numbers of a few bits that are laid into bytes are read back, and what fills up the last byte is ones, for the fields drawn of any bytes. -/
import Derived.Test.YtnknolppoeacbaaG16
import Derived.Test.YtnknolppoeacbaaG24
import Derived.Test.YtnknolppoeacbaaG25
import Derived.Test.YtnknolppoeacbaaG26
import Derived.Test.YtnknolppoeacbaaG27
import Derived.Test.YtnknolppoeacbaaG28
import Derived.Test.YtnknolppoeacbaaG29
import Derived.Test.YtnknolppoeacbaaG30
import Derived.Test.YtnknolppoeacbaaG51
import Derived.Test.YtnknolppoeacbaaG6
import Derived.Test.YtnknolppoeacbaaGBits
import Derived.Test.YtnknolppoeacbaaGLib
import Derived.Test.YtnknolppoeacbaaGPacked
import Derived.Test.YtnknolppoeacbaaGReader
namespace Go.Proofs.Ytnknolppoeacbaa.G
open Go.RowKit Go.Proofs.YtnknolppoeacbaaW.PrintWords Go.Proofs.YtnknolppoeacbaaW.PrintLast Go.Proofs.YtnknolppoeacbaaW.PrintMore
attribute [local go_sem] max2_int min2_int max_two min_two max_three min_three max_four min_four   -- for this text's walks alone
set_option linter.unusedVariables false
set_option linter.unusedSimpArgs false

theorem valF_ones (f : Nat → Int) (p k : Nat) (h : ∀ i, i < k → f (p + i) = 1) : valF f p k = 2 ^ k - 1 := by
  induction k with
  | zero => rfl
  | succ k ih =>
    simp only [valF]
    rw [ih (fun i hi => h i (by omega)), h k (by omega), two_pow_succ]
    omega
theorem valF_in (P C Q : List Bool) : valF (bt1 (P ++ (C ++ Q))) P.length C.length = valF (bt1 C) 0 C.length := by
  have gen : ∀ k, k ≤ C.length → valF (bt1 (P ++ (C ++ Q))) P.length k = valF (bt1 C) 0 k := by
    intro k
    induction k with
    | zero => intro _; rfl
    | succ k ih =>
      intro hk
      simp only [valF]
      rw [ih (by omega), bt1_right, Nat.zero_add, bt1_left _ _ _ (by omega)]
  exact gen _ (Nat.le_refl _)
theorem bitAt_pack (B : List Bool) (p : Nat) (h : p < 8 * ((B.length + 7) / 8)) : bitAt (packM B) p = bt1 B p := by
  unfold bitAt packM
  have hj : p / 8 < (B.length + 7) / 8 := by omega
  have hg : (outOf B ((B.length + 7) / 8)).getD (p / 8) 0 = valF (bt1 B) (8 * (p / 8)) 8 := by
    unfold outOf
    rw [List.getD_eq_getElem?_getD, List.getElem?_map, List.getElem?_range hj]; rfl
  rw [hg]
  have e := valF_add (bt1 B) (8 * (p / 8)) (p % 8 + 1) (7 - p % 8)
  rw [show p % 8 + 1 + (7 - p % 8) = 8 by omega] at e
  have hr := valF_range (bt1 B) (bt1_01 B) (8 * (p / 8) + (p % 8 + 1)) (7 - p % 8)
  have hp := pow_one (7 - p % 8)
  have d1 : valF (bt1 B) (8 * (p / 8)) 8 / 2 ^ (7 - p % 8) = valF (bt1 B) (8 * (p / 8)) (p % 8 + 1) := by
    rw [e, Int.add_comm, Int.add_mul_ediv_right _ _ (by omega), Int.ediv_eq_zero_of_lt hr.1 hr.2, Int.zero_add]
  rw [d1]
  simp only [valF]
  have h01 := bt1_01 B p
  rw [show 8 * (p / 8) + p % 8 = p by omega]
  omega
theorem valB_pack (B : List Bool) (p k : Nat) (h : p + k ≤ 8 * ((B.length + 7) / 8)) : valB (packM B) p k = valF (bt1 B) p k := by
  rw [valB_F]
  exact valF_congr _ _ _ _ fun i hi => bitAt_pack B _ (by omega)
theorem packM_len (B : List Bool) : (packM B).length = (B.length + 7) / 8 := by unfold packM; exact outOf_len B _
theorem packM_byte (B : List Bool) : ∀ x ∈ packM B, 0 ≤ x ∧ x ≤ 255 := by
  intro x hx
  unfold packM outOf at hx
  rw [List.mem_map] at hx
  obtain ⟨j, _, rfl⟩ := hx
  exact valF_255 B _ 8 (Nat.le_refl _)
/-- the lens of fields -/
def lensOf (l : List S46) : List Int := l.map fun x => x.f0
def valsOf (l : List S46) : List Int := l.map fun x => x.f1
theorem lensOf_app (a : List S46) (x : S46) : lensOf (a ++ [x]) = lensOf a ++ [x.f0] := by simp only [lensOf, List.map_append, List.map_cons, List.map_nil]
theorem unpack_pack (B : List Bool) (rest : Nat) (hrest : rest ≤ 7) (hB8 : B.length + rest = 8 * ((B.length + 7) / 8)) : ∀ (l : List S46) (P : List Bool), l.all fOk = true → P ++ allBits l = B → unpackS (packM B) (lensOf l ++ [(rest : Int)]) P.length = some (valsOf l ++ [2 ^ rest - 1]) := by
  intro l
  induction l with
  | nil =>
    intro P _ hB
    rw [allBits, List.append_nil] at hB
    subst hB
    simp only [lensOf, valsOf, List.map_nil, List.nil_append, unpackS, Int.toNat_natCast]
    rw [if_pos (by omega), packM_len, if_pos (by omega), valB_pack P _ _ (by omega), valF_ones _ _ _ (fun i _ => bt1_past P _ (by omega))]
    rfl
  | cons x l ih =>
    intro P h hB
    rw [List.all_cons, Bool.and_eq_true] at h
    have h1 := h.1
    simp only [fOk, Bool.and_eq_true, decide_eq_true_eq] at h1
    have h2 := ih (P ++ bitsN x.f0.toNat x.f1) h.2 (by rw [← hB, allBits, List.append_assoc])
    have hlen : B.length = P.length + (x.f0.toNat + (allBits l).length) := by rw [← hB, allBits]; simp [bitsN_length]
    simp only [lensOf, valsOf, List.map_cons, List.cons_append, unpackS]
    rw [if_pos h1.1, packM_len, if_pos (by omega), valB_pack B _ _ (by omega)]
    have hv : valF (bt1 B) P.length x.f0.toNat = x.f1 := by
      have h5 := valF_in P (bitsN x.f0.toNat x.f1) (allBits l)
      rw [bitsN_length, bitsN_val _ _ h1.2.1 (by have := pow_16 x.f0 h1.1.1 h1.1.2; omega)] at h5
      rw [← hB, allBits]
      exact h5
    rw [List.length_append, bitsN_length] at h2
    rw [hv]
    unfold lensOf valsOf at h2
    rw [h2]
    rfl
theorem l1_ev (l : List S46) (hl : l.length ≤ 1000) (v : Int) : ∀ (d i : Nat), i + d = l.length → Ev (fun k => laws_FnBitsBack.l1 k l (valsOf l ++ [v]) (i : Int)) true := by
  intro d
  induction d with
  | zero =>
    intro i hi
    exact Ev.step (fun _ => by rw [laws_FnBitsBack.l1]) (Ev.ng (by omega) (Ev.now _))
  | succ d ih =>
    intro i hi
    have h : i < l.length := by omega
    have h2 : i < (valsOf l ++ [v]).length := by simp [valsOf]; omega
    have h3 : (valsOf l ++ [v])[i] = l[i].f1 := by
      rw [List.getElem_append_left (by simp [valsOf]; omega)]
      simp [valsOf]
    refine Ev.step (fun _ => by rw [laws_FnBitsBack.l1]) (Ev.ip (by omega) (Ev.ip (by omega) (Ev.ip (by omega) ?_)))
    rw [rdF_nat l i h, rd_nat _ i h2, h3, wrap_succ i (by omega)]
    exact Ev.ip rfl (ih (i + 1) (by omega))
theorem l0_ev (l : List S46) (hl : l.length ≤ 1000) (hok : l.all fOk = true) (b : List Int) (r : Bool) (h : Ev (fun k => laws_FnBitsBack.l0 k l b (lensOf l) (sumF l) (l.length : Int)) r) : ∀ (d i : Nat), i + d = l.length → Ev (fun k => laws_FnBitsBack.l0 k l b (lensOf (l.take i)) (sumF (l.take i)) (i : Int)) r := by
  have hs : ∀ i, 0 ≤ sumF (l.take i) ∧ sumF (l.take i) ≤ 16000 := by
    intro i
    have h9 : (l.take i).all fOk = true := by rw [List.all_eq_true] at hok ⊢; exact fun x hx => hok x (List.mem_of_mem_take hx)
    have h1 := allBits_take l hok i
    have h2 := allBits_len (l.take i) h9
    have h3 := allBits_le (l.take i) h9
    have h4 : (l.take i).length ≤ l.length := by simp; omega
    omega
  have app : ∀ (a : List S46) (x : S46), sumF (a ++ [x]) = sumF a + x.f0 := by
    intro a x
    induction a with
    | nil => simp [sumF]
    | cons y a ih => simp only [List.cons_append, sumF, ih]; omega
  intro d
  induction d with
  | zero =>
    intro i hi
    obtain rfl : i = l.length := by omega
    rw [List.take_length]
    exact h
  | succ d ih =>
    intro i hi
    have hlt : i < l.length := by omega
    have h1 : fOk l[i] = true := List.all_eq_true.1 hok _ (List.getElem_mem hlt)
    simp only [fOk, Bool.and_eq_true, decide_eq_true_eq] at h1
    have h3 := ih (i + 1) (by omega)
    rw [List.take_succ_eq_append_getElem hlt, app, lensOf_app] at h3
    have hsi := hs i
    refine Ev.step (fun _ => by rw [laws_FnBitsBack.l0]) (Ev.ip (by omega) (Ev.ip (by omega) (Ev.ip (by simp [lensOf]; omega) ?_)))
    rw [rdF_nat l i hlt, wrap_in (sumF (l.take i) + l[i].f0) (by omega) (by omega), wrap_succ i (by omega)]
    exact h3
theorem pure_FnBitsBack : ∀ (l0 : List Int), (l0.length ≤ 9223372036854775807 ∧ ∀ x0_ ∈ l0, (Lit.int .u8 x0_).wf = true) → ∃ k, laws_FnBitsBack.f k l0 = some true := by
  intro l0 h0
  have hb : ∀ x ∈ l0, 0 ≤ x ∧ x ≤ 255 := fun x hx => wf_u8 (h0.2 x hx)
  by_cases hbig : (l0.length : Int) > 1048576
  · have : Ev (fun k => laws_FnBitsBack.f k l0) true := Ev.bind (Ev.c (show laws_big.f l0 = some true by unfold laws_big.f; rw [decide_eq_true hbig])) (Ev.ip rfl (Ev.now _))
    exact this.rounds
  · obtain ⟨l, hl, hlen⟩ := spec_DrawPackBits.ev l0 hb (by omega)
    have hbits : ∀ h : l.all fOk = true, (allBits l).length ≤ 16 * 30 := fun h => by have := allBits_le l h; omega
    have hp : impl_PackBits.f l = some (if fldOk l then packM (allBits l) else []) := if_pos (by omega)
    have hsame : Ev (fun k => laws_sameBytes.f k (if fldOk l then packM (allBits l) else []) (if fldOk l then packM (allBits l) else [])) true := by
      refine laws_sameBytes.same _ ?_
      by_cases h : fldOk l = true
      · have hall : l.all fOk = true := by unfold fldOk at h; rw [Bool.and_eq_true] at h; exact h.1
        rw [if_pos h, packM_len]; have := hbits hall; omega
      · rw [if_neg h]; exact Nat.zero_le _
    suffices hj : Ev (fun k => laws_FnBitsBack.j0 k l (if fldOk l then packM (allBits l) else []) (fldOk l != fldOk l)) true by
      have : Ev (fun k => laws_FnBitsBack.f k l0) true := by
        refine Ev.bind (Ev.c (show laws_big.f l0 = some false by unfold laws_big.f; rw [decide_eq_false hbig])) (Ev.ng (by simp) ?_)
        refine Ev.bind hl (Ev.bind (Ev.c hp) (Ev.bind (spec_PackBits.ev l (by omega)) (Ev.bind hsame (Ev.ip rfl ?_))))
        exact Ev.bind (impl_FieldsOk.ev l (by omega)) (Ev.bind (spec_FieldsOk.ev l (by omega)) hj)
      exact this.rounds
    rw [bne_self_eq_false]
    refine Ev.step (fun _ => by rw [laws_FnBitsBack.j0]) (Ev.ng (by simp) (Ev.bind (spec_FieldsOk.ev l (by omega)) ?_))
    by_cases h : fldOk l = true
    · have hall : l.all fOk = true := by unfold fldOk at h; rw [Bool.and_eq_true] at h; exact h.1
      have hbl := hbits hall
      have hsum := allBits_len l hall
      rw [if_pos h]
      refine Ev.ip h ?_
      have hfin : Ev (fun k => laws_FnBitsBack.l0 k l (packM (allBits l)) (lensOf l) (sumF l) (l.length : Int)) true := by
        obtain ⟨rest, hrest⟩ : ∃ rest : Nat, (allBits l).length + rest = 8 * (((allBits l).length + 7) / 8) := ⟨8 * (((allBits l).length + 7) / 8) - (allBits l).length, by omega⟩
        have hr7 : rest ≤ 7 := by omega
        have hun := unpack_pack (allBits l) rest hr7 hrest l [] hall rfl
        rw [List.length_nil, ← unpack_same0 _ (packM_byte _)] at hun
        have hU : impl_UnpackBits.f (packM (allBits l)) (lensOf l ++ [(rest : Int)]) = some (valsOf l ++ [2 ^ rest - 1], true) := by
          unfold impl_UnpackBits.f
          rw [if_pos ⟨by rw [isB, List.all_eq_true]; intro x hx; have := packM_byte _ x hx; simp [this], by simp [lensOf]; omega⟩, hun]
        refine Ev.step (fun _ => by rw [laws_FnBitsBack.l0]) (Ev.ng (by omega) ?_)
        rw [packM_len, wrap_in (8 * ((((allBits l).length + 7) / 8 : Nat) : Int)) (by omega) (by omega), ← hsum, wrap_in (8 * ((((allBits l).length + 7) / 8 : Nat) : Int) - (((allBits l).length : Nat) : Int)) (by omega) (by omega), show 8 * ((((allBits l).length + 7) / 8 : Nat) : Int) - (((allBits l).length : Nat) : Int) = (rest : Int) by omega]
        refine Ev.ng (by omega) ?_
        refine Ev.step (fun _ => by rw [laws_FnBitsBack.j2]) (Ev.ng (by simp; omega) (Ev.ip (by simp [lensOf]; omega) (Ev.bind (Ev.c hU) (Ev.ip rfl ?_))))
        have hlen2 : (valsOf l ++ [(2 : Int) ^ rest - 1]).length = l.length + 1 := by simp [valsOf]
        refine Ev.ip (by simp only; rw [hlen2, wrap_in ((l.length : Int) + 1) (by omega) (by omega)]; omega) (Ev.ip (by omega) (Ev.ip (by simp only; omega) (Ev.ip (by omega) ?_)))
        have hlast : rd (valsOf l ++ [(2 : Int) ^ rest - 1]) (l.length : Int) = 2 ^ rest - 1 := by
          rw [rd_nat _ l.length (by omega)]
          rw [List.getElem_append_right (by simp [valsOf])]
          simp
        have hm := shl_mask16 (rest : Int) (by omega) (by omega)
        rw [Int.toNat_natCast] at hm
        simp only
        rw [hlast, hm, bne_self_eq_false]
        refine Ev.step (fun _ => by rw [laws_FnBitsBack.j3]) ?_
        exact Ev.ng (by simp) (l1_ev l (by omega) _ l.length 0 (Nat.zero_add _))
      exact l0_ev l (by omega) hall (packM (allBits l)) true hfin l.length 0 (Nat.zero_add _)
    · rw [if_neg h]
      exact Ev.ng h (Ev.now _)

theorem PureFnBitsBack : ∀ (l0 : List Int), (l0.length ≤ 9223372036854775807 ∧ ∀ x0_ ∈ l0, (Lit.int .u8 x0_).wf = true) → ∃ k, laws_FnBitsBack.f k l0 = some true :=
  pure_FnBitsBack
end Go.Proofs.Ytnknolppoeacbaa.G
