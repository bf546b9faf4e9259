-- Written by gp.py (a program of this session's, over the kit's print). Not trusted: Lean checks it.
import Derived.Test.YtcjjmfpkhhdmlaaG0h
import Derived.Test.YtcjjmfpkhhdmlaaGBits
import Derived.Test.YtcjjmfpkhhdmlaaGLib
namespace Go.Proofs.Ytcjjmfpkhhdmlaa.G
open Go.RowKit Go.Proofs.YtcjjmfpkhhdmlaaW.PrintWords Go.Proofs.YtcjjmfpkhhdmlaaW.PrintLast Go.Proofs.YtcjjmfpkhhdmlaaW.PrintMore
attribute [local go_sem] max2_int min2_int max_two min_two max_three min_three max_four min_four   -- for this text's walks alone
set_option linter.unusedVariables false
set_option linter.unusedSimpArgs false

/-! codes, told -/
theorem shl1 (n : Int) (h0 : 0 ≤ n) (h1 : n ≤ 16) : shl .i64 1 n = 2 ^ n.toNat := by
  have : n = 0 ∨ n = 1 ∨ n = 2 ∨ n = 3 ∨ n = 4 ∨ n = 5 ∨ n = 6 ∨ n = 7 ∨ n = 8 ∨ n = 9 ∨ n = 10 ∨ n = 11 ∨ n = 12 ∨ n = 13 ∨ n = 14 ∨ n = 15 ∨ n = 16 := by omega
  rcases this with rfl | rfl | rfl | rfl | rfl | rfl | rfl | rfl | rfl | rfl | rfl | rfl | rfl | rfl | rfl | rfl | rfl <;> decide
/-- what codes of these lengths take -/
def kraft : List Int → Int
  | [] => 0
  | l :: t => (if 0 < l then 2 ^ (16 - l).toNat else 0) + kraft t
def lensOkM (lens : List Int) : Bool := decide (lens.length ≤ 256) && allW 0 16 lens && (decide (1 ≤ kraft lens) && decide (kraft lens ≤ 65536))
theorem pow16 (l : Int) (h0 : 0 < l) (h1 : l ≤ 16) : 1 ≤ (2 : Int) ^ (16 - l).toNat ∧ (2 : Int) ^ (16 - l).toNat ≤ 32768 := by
  have : l = 1 ∨ l = 2 ∨ l = 3 ∨ l = 4 ∨ l = 5 ∨ l = 6 ∨ l = 7 ∨ l = 8 ∨ l = 9 ∨ l = 10 ∨ l = 11 ∨ l = 12 ∨ l = 13 ∨ l = 14 ∨ l = 15 ∨ l = 16 := by omega
  rcases this with rfl | rfl | rfl | rfl | rfl | rfl | rfl | rfl | rfl | rfl | rfl | rfl | rfl | rfl | rfl | rfl <;> decide
theorem allW_at {lo hi : Int} {l : List Int} (h : allW lo hi l = true) : ∀ x ∈ l, lo ≤ x ∧ x ≤ hi := by
  unfold allW at h
  simpa only [List.all_eq_true, Bool.and_eq_true, decide_eq_true_eq] using h
theorem kraft_range (l : List Int) (h : ∀ x ∈ l, 0 ≤ x ∧ x ≤ 16) : 0 ≤ kraft l ∧ kraft l ≤ l.length * 32768 := by
  induction l with
  | nil => simp [kraft]
  | cons x t ih =>
    have h1 := ih (fun y hy => h y (List.mem_cons_of_mem _ hy))
    have h2 := h x List.mem_cons_self
    simp only [kraft, List.length_cons]
    by_cases hx : 0 < x
    · rw [if_pos hx]
      have := pow16 x hx h2.2
      push_cast; omega
    · rw [if_neg hx]; push_cast; omega
theorem lensOk_parts {lens : List Int} (h : lensOkM lens = true) : lens.length ≤ 256 ∧ (∀ x ∈ lens, 0 ≤ x ∧ x ≤ 16) ∧ 1 ≤ kraft lens ∧ kraft lens ≤ 65536 := by
  unfold lensOkM at h
  simp only [Bool.and_eq_true, decide_eq_true_eq] at h
  exact ⟨h.1.1, allW_at h.1.2, h.2.1, h.2.2⟩
/-- how many of the first i symbols have length l -/
def cntL (lens : List Int) (l : Int) : Nat → Int
  | 0 => 0
  | i + 1 => cntL lens l i + if rd lens i = l then 1 else 0
theorem cntL_range (lens : List Int) (l : Int) (i : Nat) : 0 ≤ cntL lens l i ∧ cntL lens l i ≤ i := by
  induction i with
  | zero => simp [cntL]
  | succ i ih =>
    simp only [cntL]
    split <;> omega
theorem cntL_mono (lens : List Int) (l : Int) (i j : Nat) (h : i ≤ j) : cntL lens l i ≤ cntL lens l j := by
  induction j with
  | zero => obtain rfl : i = 0 := by omega
            exact Int.le_refl _
  | succ j ih =>
    by_cases e : i = j + 1
    · rw [e]; exact Int.le_refl _
    · have := ih (by omega)
      simp only [cntL]
      split <;> omega
theorem cntL_lt (lens : List Int) (l : Int) (i j : Nat) (h : i < j) (hi : rd lens i = l) : cntL lens l i < cntL lens l j := by
  have h1 := cntL_mono lens l (i + 1) j h
  have h2 : cntL lens l (i + 1) = cntL lens l i + 1 := by simp only [cntL]; rw [if_pos hi]
  omega
/-- the code behind all of length l -/
def nextC (lens : List Int) : Nat → Int
  | 0 => 0
  | l + 1 => 2 * nextC lens l + cntL lens ((l + 1 : Nat) : Int) lens.length
theorem nextC_range (lens : List Int) (h : lens.length ≤ 256) (l : Nat) : 0 ≤ nextC lens l ∧ nextC lens l + 256 ≤ 256 * 2 ^ l := by
  induction l with
  | zero => simp [nextC]
  | succ l ih =>
    have := cntL_range lens ((l + 1 : Nat) : Int) lens.length
    simp only [nextC]
    rw [Int.pow_succ]
    omega
theorem nextC_in (lens : List Int) (h : lens.length ≤ 256) (l : Nat) (hl : l ≤ 16) : 0 ≤ nextC lens l ∧ nextC lens l ≤ 16777216 := by
  have h1 := nextC_range lens h l
  have h2 : (2 : Int) ^ l ≤ 65536 := by
    have h3 := Nat.pow_le_pow_right (n := 2) (by decide) hl
    have h4 : ((2 ^ l : Nat) : Int) ≤ ((2 ^ 16 : Nat) : Int) := Int.ofNat_le.2 h3
    rw [Int.natCast_pow] at h4
    simpa using h4
  omega
/-- the code of symbol s, of length l -/
def codeC (lens : List Int) (l : Nat) (s : Nat) : Int := 2 * nextC lens (l - 1) + cntL lens (l : Int) s
theorem codeC_next (lens : List Int) (l : Nat) (h : 1 ≤ l) : codeC lens l lens.length = nextC lens l := by
  obtain ⟨m, rfl⟩ : ∃ m, l = m + 1 := ⟨l - 1, by omega⟩
  simp [codeC, nextC]
theorem codeC_in (lens : List Int) (h : lens.length ≤ 256) (l s : Nat) (h1 : 1 ≤ l) (hl : l ≤ 17) (hs : s ≤ 256) : 0 ≤ codeC lens l s ∧ codeC lens l s ≤ 33554688 := by
  have h2 := nextC_in lens h (l - 1) (by omega)
  have h3 := cntL_range lens (l : Int) s
  unfold codeC
  omega
/-- the codes of all lengths below l, and of length l of the symbols below i -/
def codesP (lens : List Int) (l i : Nat) : List S124 :=
  (List.range lens.length).map fun (s : Nat) => if 1 ≤ rd lens s ∧ (rd lens s < l ∨ rd lens s = l ∧ s < i) then ⟨rd lens s, codeC lens (rd lens s).toNat s⟩ else z124
def codesM (lens : List Int) : List S124 := if lensOkM lens then codesP lens 17 0 else []
theorem codesP_length (lens : List Int) (l i : Nat) : (codesP lens l i).length = lens.length := by simp [codesP]
theorem codesP_start (lens : List Int) : codesP lens 1 0 = List.replicate lens.length z124 := by
  apply List.ext_getElem
  · simp [codesP_length]
  · intro s h1 h2
    simp only [codesP, List.getElem_map, List.getElem_range, List.getElem_replicate]
    rw [if_neg (by omega)]
theorem codesP_set (lens : List Int) (l i : Nat) (h1 : 1 ≤ l) (hi : i < lens.length) (he : rd lens i = l) : (codesP lens l i).set i ⟨(l : Int), codeC lens l i⟩ = codesP lens l (i + 1) := by
  apply List.ext_getElem
  · simp [codesP_length]
  · intro s h2 h3
    rw [List.getElem_set]
    simp only [codesP, List.getElem_map, List.getElem_range]
    by_cases e : i = s
    · subst e
      rw [if_pos rfl, if_pos (by omega), he, Int.toNat_natCast]
    · rw [if_neg e]
      by_cases hc : 1 ≤ rd lens s ∧ (rd lens s < l ∨ rd lens s = l ∧ s < i)
      · rw [if_pos hc, if_pos (by omega)]
      · rw [if_neg hc, if_neg (by omega)]
theorem codesP_skip (lens : List Int) (l i : Nat) (he : rd lens i ≠ l) : codesP lens l i = codesP lens l (i + 1) := by
  apply List.ext_getElem
  · simp [codesP_length]
  · intro s h2 h3
    simp only [codesP, List.getElem_map, List.getElem_range]
    by_cases e : i = s
    · subst e
      by_cases hc : 1 ≤ rd lens i ∧ (rd lens i < l ∨ rd lens i = l ∧ i < i)
      · rw [if_pos hc, if_pos (by omega)]
      · rw [if_neg hc, if_neg (by omega)]
    · by_cases hc : 1 ≤ rd lens s ∧ (rd lens s < l ∨ rd lens s = l ∧ s < i)
      · rw [if_pos hc, if_pos (by omega)]
      · rw [if_neg hc, if_neg (by omega)]
theorem codesP_up (lens : List Int) (l : Nat) : codesP lens l lens.length = codesP lens (l + 1) 0 := by
  apply List.ext_getElem
  · simp [codesP_length]
  · intro s h2 h3
    have hs : s < lens.length := by simpa [codesP_length] using h2
    simp only [codesP, List.getElem_map, List.getElem_range]
    by_cases hc : 1 ≤ rd lens s ∧ (rd lens s < l ∨ rd lens s = l ∧ s < lens.length)
    · rw [if_pos hc, if_pos (by omega)]
    · rw [if_neg hc, if_neg (by omega)]
theorem codeC_skip (lens : List Int) (l i : Nat) (he : rd lens i ≠ l) : codeC lens l (i + 1) = codeC lens l i := by
  unfold codeC; simp only [cntL]; rw [if_neg he]; omega
theorem codeC_step (lens : List Int) (l i : Nat) (he : rd lens i = l) : codeC lens l (i + 1) = codeC lens l i + 1 := by
  unfold codeC; simp only [cntL]; rw [if_pos he]; omega
theorem codeC_first (lens : List Int) (l : Nat) : codeC lens l 0 = nextC lens (l - 1) * 2 := by
  unfold codeC; simp only [cntL]; omega
/-- the first of the first n symbols with this code -/
def firstS (codes : List S124) (a b : Int) : Nat → Option Nat
  | 0 => none
  | n + 1 => match firstS codes a b n with
    | some s => some s
    | none => if (codes.getD n z124).f0 = a ∧ (codes.getD n z124).f1 = b then some n else none
/-- the last of them -/
def lastS (codes : List S124) (a b : Int) : Nat → Option Nat
  | 0 => none
  | n + 1 => if (codes.getD n z124).f0 = a ∧ (codes.getD n z124).f1 = b then some n else lastS codes a b n
theorem firstS_some {codes : List S124} {a b : Int} {n s : Nat} (h : firstS codes a b n = some s) : s < n ∧ (codes.getD s z124).f0 = a ∧ (codes.getD s z124).f1 = b := by
  induction n with
  | zero => simp [firstS] at h
  | succ n ih =>
    simp only [firstS] at h
    split at h
    · rename_i t ht
      cases h
      have := ih ht
      exact ⟨by omega, this.2⟩
    · split at h
      · rename_i hc
        cases h
        exact ⟨by omega, hc⟩
      · cases h
theorem firstS_none {codes : List S124} {a b : Int} {n : Nat} (h : firstS codes a b n = none) : ∀ s, s < n → ¬ ((codes.getD s z124).f0 = a ∧ (codes.getD s z124).f1 = b) := by
  induction n with
  | zero => intro s hs; omega
  | succ n ih =>
    simp only [firstS] at h
    split at h
    · cases h
    · rename_i hn
      split at h
      · cases h
      · rename_i hc
        intro s hs
        by_cases e : s = n
        · rw [e]; exact hc
        · exact ih hn s (by omega)
/-- codes tell their symbols apart -/
def Apart (codes : List S124) : Prop := ∀ s t, s < t → t < codes.length → 1 ≤ (codes.getD s z124).f0 → (codes.getD s z124).f0 = (codes.getD t z124).f0 → (codes.getD s z124).f1 ≠ (codes.getD t z124).f1
theorem last_first {codes : List S124} (hA : Apart codes) (a b : Int) (ha : 1 ≤ a) : ∀ n, n ≤ codes.length → lastS codes a b n = firstS codes a b n := by
  intro n
  induction n with
  | zero => intro _; rfl
  | succ n ih =>
    intro hn
    simp only [lastS, firstS]
    rw [ih (by omega)]
    cases hf : firstS codes a b n with
    | none => rfl
    | some s =>
      have h := firstS_some hf
      rw [if_neg]
      intro hc
      exact hA s n h.1 (by omega) (by rw [h.2.1]; exact ha) (by rw [h.2.1, hc.1]) (by rw [h.2.2, hc.2])
theorem codesP_at (lens : List Int) (l i s : Nat) (hs : s < lens.length) : (codesP lens l i).getD s z124 = if 1 ≤ rd lens s ∧ (rd lens s < l ∨ rd lens s = l ∧ s < i) then ⟨rd lens s, codeC lens (rd lens s).toNat s⟩ else z124 := by
  rw [List.getD_eq_getElem?_getD, List.getElem?_eq_getElem (by rw [codesP_length]; exact hs)]
  simp only [codesP, List.getElem_map, List.getElem_range, Option.getD_some]
theorem codesP_apart (lens : List Int) : Apart (codesP lens 17 0) := by
  intro s t hst ht h1 he hv
  rw [codesP_length] at ht
  rw [codesP_at lens 17 0 s (by omega)] at h1 he hv
  rw [codesP_at lens 17 0 t (by omega)] at he hv
  by_cases cs : 1 ≤ rd lens s ∧ (rd lens s < ((17 : Nat) : Int) ∨ rd lens s = ((17 : Nat) : Int) ∧ s < 0)
  · rw [if_pos cs] at h1 he hv
    by_cases ct : 1 ≤ rd lens t ∧ (rd lens t < ((17 : Nat) : Int) ∨ rd lens t = ((17 : Nat) : Int) ∧ t < 0)
    · rw [if_pos ct] at he hv
      simp only [] at he hv
      rw [← he] at hv
      have h2 := cntL_lt lens (rd lens s) s t hst rfl
      unfold codeC at hv
      rw [show (((rd lens s).toNat : Nat) : Int) = rd lens s by omega] at hv
      omega
    · rw [if_neg ct] at he
      have : z124.f0 = 0 := rfl
      rw [this] at he
      omega
  · rw [if_neg cs] at h1
    have : z124.f0 = 0 := rfl
    omega
/-- one symbol is read from bit p on: which, and the place behind its code -/
def symM (codes : List S124) (b : List Int) : Nat → Int → Int → Nat → Option (Nat × Nat)
  | 0, _, _, _ => none
  | n + 1, l, x, p => if p < 8 * b.length then (match firstS codes (l + 1) (2 * x + bitAt b p) codes.length with | some s => some (s, p + 1) | none => symM codes b n (l + 1) (2 * x + bitAt b p) (p + 1)) else none
def readM (codes : List S124) (b : List Int) : Nat → Nat → Option (List Int)
  | 0, _ => some []
  | n + 1, p => match symM codes b 16 0 0 p with
    | none => none
    | some (s, q) => (readM codes b n q).map ((s : Int) :: ·)
def codeReadM (lens b : List Int) (n : Int) : List Int × Bool := if lensOkM lens = true ∧ 0 ≤ n ∧ n ≤ 60000 then (match readM (codesM lens) b n.toNat 0 with | some r => (r, true) | none => ([], false)) else ([], false)
theorem symM_lt {codes : List S124} {b : List Int} : ∀ (n : Nat) (l x : Int) (p s q : Nat), symM codes b n l x p = some (s, q) → s < codes.length ∧ p < q ∧ q ≤ 8 * b.length := by
  intro n
  induction n with
  | zero => intro l x p s q h; simp [symM] at h
  | succ n ih =>
    intro l x p s q h
    simp only [symM] at h
    split at h
    · rename_i hp
      split at h
      · rename_i t ht
        cases h
        exact ⟨(firstS_some ht).1, by omega, by omega⟩
      · have := ih _ _ _ _ _ h
        omega
    · cases h
theorem codes_in (lens : List Int) (s : Nat) : 0 ≤ ((codesM lens).getD s z124).f0 ∧ ((codesM lens).getD s z124).f0 ≤ 16 ∧ 0 ≤ ((codesM lens).getD s z124).f1 ∧ ((codesM lens).getD s z124).f1 ≤ 33554688 := by
  have zz : z124.f0 = 0 ∧ z124.f1 = 0 := ⟨rfl, rfl⟩
  unfold codesM
  by_cases h : lensOkM lens = true
  · rw [if_pos h]
    obtain ⟨hn, hx, _, _⟩ := lensOk_parts h
    by_cases hs : s < lens.length
    · rw [codesP_at lens 17 0 s hs]
      split
      · rename_i hc
        have := codeC_in lens hn (rd lens s).toNat s (by omega) (by omega) (by omega)
        have h2 := hx _ (List.getElem_mem hs)
        rw [← rd_nat lens s hs] at h2
        exact ⟨by simp only []; omega, by simp only []; omega, this.1, this.2⟩
      · rw [zz.1, zz.2]; omega
    · rw [List.getD_eq_getElem?_getD, List.getElem?_eq_none (by rw [codesP_length]; omega)]
      simp only [Option.getD_none]
      rw [zz.1, zz.2]; omega
  · rw [if_neg h]
    simp only [List.getD_nil]
    rw [zz.1, zz.2]; omega
theorem codesM_length (lens : List Int) (h : lensOkM lens = true) : (codesM lens).length = lens.length ∧ 1 ≤ lens.length := by
  obtain ⟨hn, hx, hk, _⟩ := lensOk_parts h
  unfold codesM
  rw [if_pos h, codesP_length]
  refine ⟨rfl, ?_⟩
  cases lens with
  | nil => simp [kraft] at hk
  | cons x t => simp
theorem codesM_small (lens : List Int) : (codesM lens).length ≤ 256 := by
  by_cases h : lensOkM lens = true
  · have := codesM_length lens h
    have := (lensOk_parts h).1
    omega
  · unfold codesM; rw [if_neg h]; simp
theorem codesM_apart (lens : List Int) : Apart (codesM lens) := by
  unfold codesM
  split
  · exact codesP_apart lens
  · intro s t _ ht; simp at ht

end Go.Proofs.Ytcjjmfpkhhdmlaa.G
