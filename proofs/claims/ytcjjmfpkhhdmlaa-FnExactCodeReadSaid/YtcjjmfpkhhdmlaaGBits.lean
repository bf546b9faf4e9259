-- Written by gp.py (a program of this session's, over the kit's print). Not trusted: Lean checks it.
import Derived.Test.YtcjjmfpkhhdmlaaG0h
import Derived.Test.YtcjjmfpkhhdmlaaGReader
namespace Go.Proofs.Ytcjjmfpkhhdmlaa.G
open Go.RowKit Go.Proofs.YtcjjmfpkhhdmlaaW.PrintWords Go.Proofs.YtcjjmfpkhhdmlaaW.PrintLast Go.Proofs.YtcjjmfpkhhdmlaaW.PrintMore
attribute [local go_sem] max2_int min2_int max_two min_two max_three min_three max_four min_four   -- for this text's walks alone
set_option linter.unusedVariables false
set_option linter.unusedSimpArgs false

/-! bits of bytes, as both sides tell them -/
/-- the bit at a place -/
def bitAt (b : List Int) (p : Nat) : Int := b.getD (p / 8) 0 / 2 ^ (7 - p % 8) % 2
/-- the number of k bits from a place on -/
def valB (b : List Int) (p : Nat) : Nat → Int
  | 0 => 0
  | k + 1 => 2 * valB b p k + bitAt b (p + k)
theorem bitAt_01 (b : List Int) (p : Nat) : 0 ≤ bitAt b p ∧ bitAt b p ≤ 1 := by unfold bitAt; omega
theorem two_pow_succ (k : Nat) : (2 : Int) ^ (k + 1) = 2 * 2 ^ k := by rw [Int.pow_succ, Int.mul_comm]
theorem valB_range (b : List Int) (p k : Nat) : 0 ≤ valB b p k ∧ valB b p k < 2 ^ k := by
  induction k with
  | zero => simp [valB]
  | succ k ih =>
    have := bitAt_01 b (p + k)
    rw [two_pow_succ]
    simp only [valB]
    omega
theorem valB_add (b : List Int) (p m k : Nat) : valB b p (m + k) = valB b p m * 2 ^ k + valB b (p + m) k := by
  induction k with
  | zero => simp [valB]
  | succ k ih =>
    rw [← Nat.add_assoc, two_pow_succ]
    simp only [valB]
    rw [ih, Nat.add_assoc, Int.mul_add]
    have : 2 * (valB b p m * 2 ^ k) = valB b p m * (2 * 2 ^ k) := by rw [Int.mul_left_comm]
    omega
theorem valB_byte (b : List Int) (j : Nat) (h : j < b.length) (h0 : 0 ≤ b[j]) (h1 : b[j] ≤ 255) : valB b (8 * j) 8 = b[j] := by
  have e : ∀ i, i < 8 → bitAt b (8 * j + i) = b[j] / 2 ^ (7 - i) % 2 := by
    intro i hi
    unfold bitAt
    rw [show (8 * j + i) / 8 = j by omega, show (8 * j + i) % 8 = i by omega]
    simp [h]
  have key : ∀ k, k ≤ 8 → valB b (8 * j) k = b[j] / 2 ^ (8 - k) := by
    intro k
    induction k with
    | zero =>
      intro _
      rw [show (2 : Int) ^ (8 - 0) = 256 from rfl]
      simp only [valB]; omega
    | succ k ih =>
      intro hk
      simp only [valB]
      rw [ih (by omega), e k (by omega), show 8 - k = (7 - k) + 1 by omega, Int.pow_succ, ← Int.ediv_ediv_of_nonneg (by have := pow_one (7 - k); omega), show 8 - (k + 1) = 7 - k by omega]
      omega
  rw [key 8 (by omega)]
  simp
/-- the bytes behind place j are taken until there are n bits from p on -/
theorem fillM_val (b : List Int) (hb : ∀ x ∈ b, 0 ≤ x ∧ x ≤ 255) (p n : Nat) (d : Nat) : ∀ (j m : Nat), b.length - j = d → p + m = 8 * j → j ≤ b.length →
    (p + n ≤ 8 * b.length → ∃ j2 m2 : Nat, fillM n (b.drop j) (valB b p m) m = some (b.drop j2, valB b p m2, (m2 : Int)) ∧ p + m2 = 8 * j2 ∧ j2 ≤ b.length ∧ n ≤ m2) ∧
    (¬ p + n ≤ 8 * b.length → fillM n (b.drop j) (valB b p m) m = none) := by
  induction d with
  | zero =>
    intro j m hd hp hj
    obtain rfl : j = b.length := by omega
    rw [List.drop_length]
    constructor
    · intro h
      exact ⟨b.length, m, by rw [fillM_done (by omega), List.drop_length], hp, hj, by omega⟩
    · intro h
      simp only [fillM]
      rw [if_pos (by omega)]
  | succ d ih =>
    intro j m hd hp hj
    have hlt : j < b.length := by omega
    by_cases hm : m < n
    · rw [List.drop_eq_getElem_cons hlt, fillM_more (by omega)]
      have hx := hb _ (List.getElem_mem hlt)
      have e : valB b p m * 256 + b[j] = valB b p (m + 8) := by
        rw [valB_add, hp, valB_byte b j hlt hx.1 hx.2]; rfl
      rw [e, show (m : Int) + 8 = ((m + 8 : Nat) : Int) by omega]
      exact ih (j + 1) (m + 8) (by omega) (by omega) (by omega)
    · constructor
      · intro h
        exact ⟨j, m, by rw [fillM_done (by omega)], hp, hj, by omega⟩
      · intro h; omega
/-- the numbers of so many bits each, told from a place on -/
def unpackS (b : List Int) : List Int → Nat → Option (List Int)
  | [], _ => some []
  | n :: ns, p => if 0 ≤ n ∧ n ≤ 16 then (if p + n.toNat ≤ 8 * b.length then (unpackS b ns (p + n.toNat)).map (valB b p n.toNat :: ·) else none) else none
theorem unpack_same (b : List Int) (hb : ∀ x ∈ b, 0 ≤ x ∧ x ≤ 255) (lens : List Int) : ∀ (j m p : Nat), p + m = 8 * j → j ≤ b.length → unpackI lens (b.drop j) (valB b p m) m = unpackS b lens p := by
  induction lens with
  | nil => intro j m p _ _; rfl
  | cons n ns ih =>
    intro j m p hp hj
    simp only [unpackI, unpackS]
    by_cases hn : 0 ≤ n ∧ n ≤ 16
    · rw [if_pos hn, if_pos hn]
      obtain ⟨k, rfl⟩ := Int.eq_ofNat_of_zero_le hn.1
      have hf := fillM_val b hb p k _ j m rfl hp hj
      simp only [Int.toNat_natCast]
      by_cases hk : p + k ≤ 8 * b.length
      · obtain ⟨j2, m2, h1, h2, h3, h4⟩ := hf.1 hk
        rw [h1, if_pos hk]
        simp only
        have e := valB_add b p k (m2 - k)
        rw [Nat.add_sub_cancel' h4] at e
        have hr := valB_range b (p + k) (m2 - k)
        have hpw := pow_one (m2 - k)
        have t : ((m2 : Int) - (k : Int)).toNat = m2 - k := by omega
        rw [t, e]
        have d1 : (valB b p k * 2 ^ (m2 - k) + valB b (p + k) (m2 - k)) / 2 ^ (m2 - k) = valB b p k := by
          rw [Int.add_comm, Int.add_mul_ediv_right _ _ (by omega), Int.ediv_eq_zero_of_lt hr.1 hr.2, Int.zero_add]
        have d2 : (valB b p k * 2 ^ (m2 - k) + valB b (p + k) (m2 - k)) % 2 ^ (m2 - k) = valB b (p + k) (m2 - k) := by
          rw [Int.add_comm, Int.add_mul_emod_self_right, Int.emod_eq_of_lt hr.1 hr.2]
        rw [d1, d2, show (m2 : Int) - (k : Int) = ((m2 - k : Nat) : Int) by omega, ih j2 (m2 - k) (p + k) (by omega) h3]
      · rw [hf.2 hk, if_neg hk]
    · rw [if_neg hn, if_neg hn]
theorem unpack_same0 (b : List Int) (hb : ∀ x ∈ b, 0 ≤ x ∧ x ≤ 255) (lens : List Int) : unpackI lens b 0 0 = unpackS b lens 0 := unpack_same b hb lens 0 0 0 rfl (Nat.zero_le _)

end Go.Proofs.Ytcjjmfpkhhdmlaa.G
