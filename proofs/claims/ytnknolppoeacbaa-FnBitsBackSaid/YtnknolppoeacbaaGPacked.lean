-- Written by gp.py (a program of this session's, over the kit's print). Not trusted: Lean checks it.
import Derived.Test.YtnknolppoeacbaaG0h
import Derived.Test.YtnknolppoeacbaaGBits
import Derived.Test.YtnknolppoeacbaaGPack
import Derived.Test.YtnknolppoeacbaaGReader
namespace Go.Proofs.Ytnknolppoeacbaa.G
open Go.RowKit Go.Proofs.YtnknolppoeacbaaW.PrintWords Go.Proofs.YtnknolppoeacbaaW.PrintLast Go.Proofs.YtnknolppoeacbaaW.PrintMore
attribute [local go_sem] max2_int min2_int max_two min_two max_three min_three max_four min_four   -- for this text's walks alone
set_option linter.unusedVariables false
set_option linter.unusedSimpArgs false

/-! what the closure packs, told by bits -/
/-- the number of k bits from a place on, the bits by a function -/
def valF (f : Nat → Int) (p : Nat) : Nat → Int
  | 0 => 0
  | k + 1 => 2 * valF f p k + f (p + k)
theorem valB_F (b : List Int) (p k : Nat) : valB b p k = valF (bitAt b) p k := by
  induction k with
  | zero => rfl
  | succ k ih => simp only [valB, valF, ih]
theorem valF_congr (f g : Nat → Int) (p k : Nat) (h : ∀ i, i < k → f (p + i) = g (p + i)) : valF f p k = valF g p k := by
  induction k with
  | zero => rfl
  | succ k ih => simp only [valF]; rw [ih (fun i hi => h i (by omega)), h k (by omega)]
theorem valF_add (f : Nat → Int) (p m k : Nat) : valF f p (m + k) = valF f p m * 2 ^ k + valF f (p + m) k := by
  induction k with
  | zero => simp [valF]
  | succ k ih =>
    rw [← Nat.add_assoc, two_pow_succ]
    simp only [valF]
    rw [ih, Nat.add_assoc, Int.mul_add]
    have : 2 * (valF f p m * 2 ^ k) = valF f p m * (2 * 2 ^ k) := by rw [Int.mul_left_comm]
    omega
theorem valF_range (f : Nat → Int) (hf : ∀ i, 0 ≤ f i ∧ f i ≤ 1) (p k : Nat) : 0 ≤ valF f p k ∧ valF f p k < 2 ^ k := by
  induction k with
  | zero => simp [valF]
  | succ k ih =>
    have := hf (p + k)
    rw [two_pow_succ]
    simp only [valF]
    omega
/-- bit p, ones beyond -/
def bt1 (B : List Bool) (p : Nat) : Int := if B.getD p true then 1 else 0
theorem bt1_01 (B : List Bool) (p : Nat) : 0 ≤ bt1 B p ∧ bt1 B p ≤ 1 := by unfold bt1; split <;> omega
theorem bt1_left (B C : List Bool) (p : Nat) (h : p < B.length) : bt1 (B ++ C) p = bt1 B p := by
  unfold bt1
  simp [h, List.getElem_append_left, List.getElem?_append_left h]
theorem bt1_right (B C : List Bool) (p : Nat) : bt1 (B ++ C) (B.length + p) = bt1 C p := by
  unfold bt1
  simp [List.getElem?_append_right]
/-- the bits of a number -/
def bitsN (n : Nat) (v : Int) : List Bool := (List.range n).map fun k => v / 2 ^ (n - 1 - k) % 2 == 1
theorem bitsN_length (n : Nat) (v : Int) : (bitsN n v).length = n := by simp [bitsN]
theorem bitsN_val (n : Nat) (v : Int) (h0 : 0 ≤ v) (h1 : v < 2 ^ n) : valF (bt1 (bitsN n v)) 0 n = v := by
  have key : ∀ k, k ≤ n → valF (bt1 (bitsN n v)) 0 k = v / 2 ^ (n - k) := by
    intro k
    induction k with
    | zero =>
      intro _
      simp only [valF, Nat.sub_zero]
      rw [Int.ediv_eq_zero_of_lt h0 h1]
    | succ k ih =>
      intro hk
      have hb : bt1 (bitsN n v) (0 + k) = v / 2 ^ (n - 1 - k) % 2 := by
        unfold bt1 bitsN
        rw [Nat.zero_add, List.getD_eq_getElem?_getD, List.getElem?_map, List.getElem?_range (by omega)]
        simp only [Option.map_some, Option.getD_some, beq_iff_eq]
        split <;> omega
      simp only [valF]
      rw [ih (by omega), hb, show n - k = (n - 1 - k) + 1 by omega, Int.pow_succ, ← Int.ediv_ediv_of_nonneg (by have := pow_one (n - 1 - k); omega), show n - (k + 1) = n - 1 - k by omega]
      omega
  rw [key n (Nat.le_refl _)]
  simp
/-- whole bytes of bits, what is over, and how many bits that are -/
def outOf (B : List Bool) (c : Nat) : List Int := (List.range c).map fun j => valF (bt1 B) (8 * j) 8
def stateOf (B : List Bool) : List Int × Int × Int := (outOf B (B.length / 8), valF (bt1 B) (8 * (B.length / 8)) (B.length % 8), ((B.length % 8 : Nat) : Int))
theorem outOf_left (B C : List Bool) (c : Nat) (h : 8 * c ≤ B.length) : outOf (B ++ C) c = outOf B c := by
  unfold outOf
  apply List.map_congr_left
  intro j hj
  have hj' : j < c := by simpa using hj
  exact valF_congr _ _ _ _ fun i hi => bt1_left B C _ (by omega)
theorem flush_val (f : Nat → Int) (hf : ∀ i, 0 ≤ f i ∧ f i ≤ 1) (d : Nat) : ∀ (c m : Nat), m < 8 * (d + 1) →
    flushM d ((List.range c).map fun j => valF f (8 * j) 8) (valF f (8 * c) m) m = ((List.range (c + m / 8)).map fun j => valF f (8 * j) 8, valF f (8 * (c + m / 8)) (m % 8), ((m % 8 : Nat) : Int)) := by
  induction d with
  | zero =>
    intro c m hm
    simp only [flushM]
    rw [show m / 8 = 0 by omega, show m % 8 = m by omega, Nat.add_zero]
  | succ d ih =>
    intro c m hm
    simp only [flushM]
    by_cases h8 : m ≥ 8
    · rw [if_pos (by omega)]
      have e := valF_add f (8 * c) 8 (m - 8)
      rw [Nat.add_sub_cancel' h8] at e
      have hr := valF_range f hf (8 * c + 8) (m - 8)
      have hp := pow_one (m - 8)
      have t : ((m : Int) - 8).toNat = m - 8 := by omega
      have d1 : (valF f (8 * c) m) / 2 ^ (m - 8) = valF f (8 * c) 8 := by
        rw [e, Int.add_comm, Int.add_mul_ediv_right _ _ (by omega), Int.ediv_eq_zero_of_lt hr.1 hr.2, Int.zero_add]
      have d2 : (valF f (8 * c) m) % 2 ^ (m - 8) = valF f (8 * (c + 1)) (m - 8) := by
        rw [e, Int.add_comm, Int.add_mul_emod_self_right, Int.emod_eq_of_lt hr.1 hr.2, Nat.mul_add]
      rw [t, d1, d2, show (m : Int) - 8 = ((m - 8 : Nat) : Int) by omega]
      have h9 := ih (c + 1) (m - 8) (by omega)
      rw [List.range_succ, List.map_append, List.map_cons, List.map_nil] at h9
      rw [h9, show c + 1 + (m - 8) / 8 = c + m / 8 by omega, show (m - 8) % 8 = m % 8 by omega]
    · rw [if_neg (by omega), show m / 8 = 0 by omega, show m % 8 = m by omega, Nat.add_zero]
/-- a number put behind -/
def putM (s : List Int × Int × Int) (n v : Int) : List Int × Int × Int := flushM 2 s.1 (s.2.1 * 2 ^ n.toNat + v) (s.2.2 + n)
theorem putM_state (B : List Bool) (n : Nat) (v : Int) (hn : n ≤ 16) (h0 : 0 ≤ v) (h1 : v < 2 ^ n) : putM (stateOf B) n v = stateOf (B ++ bitsN n v) := by
  unfold putM stateOf
  simp only [Int.toNat_natCast, List.length_append, bitsN_length]
  have hlen := bitsN_length n v
  have e1 : valF (bt1 B) (8 * (B.length / 8)) (B.length % 8) = valF (bt1 (B ++ bitsN n v)) (8 * (B.length / 8)) (B.length % 8) :=
    valF_congr _ _ _ _ fun i hi => (bt1_left B _ _ (by omega)).symm
  have e2 : v = valF (bt1 (B ++ bitsN n v)) (8 * (B.length / 8) + B.length % 8) n := by
    rw [show 8 * (B.length / 8) + B.length % 8 = B.length by omega]
    have : valF (bt1 (B ++ bitsN n v)) B.length n = valF (bt1 (bitsN n v)) 0 n := by
      have gen : ∀ k, valF (bt1 (B ++ bitsN n v)) B.length k = valF (bt1 (bitsN n v)) 0 k := by
        intro k
        induction k with
        | zero => rfl
        | succ k ih => simp only [valF]; rw [ih, bt1_right, Nat.zero_add]
      exact gen n
    rw [this, bitsN_val n v h0 h1]
  have e3 : valF (bt1 (B ++ bitsN n v)) (8 * (B.length / 8)) (B.length % 8) * 2 ^ n + valF (bt1 (B ++ bitsN n v)) (8 * (B.length / 8) + B.length % 8) n = valF (bt1 (B ++ bitsN n v)) (8 * (B.length / 8)) (B.length % 8 + n) := (valF_add _ _ _ _).symm
  rw [← e1, ← e2] at e3
  rw [e3, ← outOf_left B (bitsN n v) (B.length / 8) (by omega), show ((B.length % 8 : Nat) : Int) + (n : Int) = ((B.length % 8 + n : Nat) : Int) by omega]
  have h9 := flush_val (bt1 (B ++ bitsN n v)) (bt1_01 _) 2 (B.length / 8) (B.length % 8 + n) (by omega)
  have e4 : B.length / 8 + (B.length % 8 + n) / 8 = (B.length + n) / 8 := by omega
  have e5 : (B.length % 8 + n) % 8 = (B.length + n) % 8 := by omega
  rw [e4, e5] at h9
  unfold outOf
  exact h9
theorem stateOf_q0 (B : List Bool) : 0 ≤ (stateOf B).2.1 := (valF_range _ (bt1_01 B) _ _).1
theorem stateOf_q1 (B : List Bool) : (stateOf B).2.1 < 2 ^ (stateOf B).2.2.toNat := by
  have := (valF_range _ (bt1_01 B) (8 * (B.length / 8)) (B.length % 8)).2
  show _ < 2 ^ (((B.length % 8 : Nat) : Int)).toNat
  rw [Int.toNat_natCast]
  exact this
theorem stateOf_m (B : List Bool) : 0 ≤ (stateOf B).2.2 ∧ (stateOf B).2.2 ≤ 7 := by
  unfold stateOf
  simp only
  omega
theorem stateOf_len (B : List Bool) : (stateOf B).1.length = B.length / 8 := by simp [stateOf, outOf]
theorem bitsN_ones (k : Nat) : bitsN k (2 ^ k - 1) = List.replicate k true := by
  have key : ∀ k : Nat, ∀ j, j < k → ((2 : Int) ^ k - 1) / 2 ^ (k - 1 - j) % 2 = 1 := by
    intro k j hj
    have e : (2 : Int) ^ k = 2 ^ (k - 1 - j) * (2 * 2 ^ j) := by
      rw [← two_pow_succ, ← Int.pow_add, show k - 1 - j + (j + 1) = k by omega]
    have hp := pow_one (k - 1 - j)
    have : (2 : Int) ^ k - 1 = (2 ^ (k - 1 - j) - 1) + (2 * 2 ^ j - 1) * 2 ^ (k - 1 - j) := by
      rw [e, Int.sub_mul, Int.mul_comm (2 * 2 ^ j)]; omega
    rw [this, Int.add_mul_ediv_right _ _ (by omega), Int.ediv_eq_zero_of_lt (by omega) (by omega)]
    omega
  unfold bitsN
  apply List.ext_getElem
  · simp
  · intro i h1 h2
    simp at h1
    simp [key k i h1]
/-- bits laid, filled up with ones -/
def packM (B : List Bool) : List Int := outOf B ((B.length + 7) / 8)
theorem packM_even (B : List Bool) (h : B.length % 8 = 0) : (stateOf B).1 = packM B := by
  unfold stateOf packM
  simp only
  rw [show (B.length + 7) / 8 = B.length / 8 by omega]
theorem bt1_ones (B : List Bool) (k p : Nat) : bt1 (B ++ List.replicate k true) p = bt1 B p := by
  unfold bt1
  simp only [List.getD_eq_getElem?_getD, List.getElem?_append, List.getElem?_replicate]
  by_cases h : p < B.length
  · simp [h]
  · have : B[p]? = none := List.getElem?_eq_none (by omega)
    simp only [h, if_false, this]
    split <;> simp
theorem packM_filled (B : List Bool) (h : 0 < B.length % 8) : (stateOf (B ++ bitsN (8 - B.length % 8) (2 ^ (8 - B.length % 8) - 1))).1 = packM B := by
  rw [bitsN_ones]
  unfold stateOf packM outOf
  simp only [List.length_append, List.length_replicate]
  rw [show (B.length + (8 - B.length % 8)) / 8 = (B.length + 7) / 8 by omega]
  apply List.map_congr_left
  intro j hj
  exact valF_congr _ _ _ _ fun i hi => bt1_ones B _ _

end Go.Proofs.Ytnknolppoeacbaa.G
