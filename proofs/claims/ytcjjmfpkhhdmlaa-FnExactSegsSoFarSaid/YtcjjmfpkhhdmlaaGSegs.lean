-- Written by gp.py (a program of this session's, over the kit's print). Not trusted: Lean checks it.
import Derived.Test.YtcjjmfpkhhdmlaaG0h
namespace Go.Proofs.Ytcjjmfpkhhdmlaa.G
open Go.RowKit Go.Proofs.YtcjjmfpkhhdmlaaW.PrintWords Go.Proofs.YtcjjmfpkhhdmlaaW.PrintLast Go.Proofs.YtcjjmfpkhhdmlaaW.PrintMore
attribute [local go_sem] max2_int min2_int max_two min_two max_three min_three max_four min_four   -- for this text's walks alone
set_option linter.unusedVariables false
set_option linter.unusedSimpArgs false

/-! segments: what both programs tell -/
/-- bytes up to a 255 that no 0 follows, and how many these are -/
def un : List Int → List Int × Nat
  | [] => ([], 0)
  | [x] => if x = 255 then ([], 0) else ([x], 1)
  | x :: y :: t => if x = 255 then (if y = 0 then (255 :: (un t).1, (un t).2 + 2) else ([], 0)) else (x :: (un (y :: t)).1, (un (y :: t)).2 + 1)
def mayRunM (l : List S131) : Bool := match l.getLast? with | some s => s.f0 != 0 | none => false
def mayRestM (l : List S131) : Bool := match l.getLast? with | some s => s.f0 == 0 | none => false
def isRest (m : Int) : Bool := decide (240 ≤ m) && decide (m ≤ 247)
/-- the mark that the rest begins with, 0 of run data -/
def markM (rest : List Int) : Int := if rd rest 0 ≠ 255 ∨ rd rest 1 = 0 then 0 else rd rest 1
def badM (m : Int) (l : List S131) : Bool := decide (247 < m) || (decide (m = 0) && !mayRunM l) || (isRest m && !mayRestM l)
def lenM (rest : List Int) : Int := rd rest 2 * 256 + rd rest 3
/-- one segment is read: the end, a fault, the place behind, the segments -/
def nxt (b : List Int) (at_ : Nat) (l : List S131) : Bool × Int × Int × Nat × List S131 :=
  if b.drop at_ = [] ∨ b.drop at_ = [255] then (false, 3, b.length, at_, l)
  else if markM (b.drop at_) = 254 then (true, 0, 0, at_ + 2, l)
  else if badM (markM (b.drop at_)) l then (false, 4, at_, at_, l)
  else if l.length = 300 then (false, 6, at_, at_, l)
  else if markM (b.drop at_) = 0 then
    (if 20000 < (un (b.drop at_)).1.length then (false, 5, at_, at_, l) else (false, 0, 0, at_ + (un (b.drop at_)).2, l ++ [⟨0, (un (b.drop at_)).1⟩]))
  else if isRest (markM (b.drop at_)) then (false, 0, 0, at_ + 2, l ++ [⟨markM (b.drop at_), []⟩])
  else if (b.drop at_).length < 4 then (false, 3, b.length, at_, l)
  else if 20000 < lenM (b.drop at_) then (false, 5, at_, at_, l)
  else if ((b.drop at_).length : Int) < 4 + lenM (b.drop at_) then (false, 3, b.length, at_, l)
  else (false, 0, 0, at_ + 4 + (lenM (b.drop at_)).toNat, l ++ [⟨markM (b.drop at_), ((b.drop at_).drop 4).take (lenM (b.drop at_)).toNat⟩])
theorem un_ne (x : Int) (t : List Int) (h : x ≠ 255) : un (x :: t) = (x :: (un t).1, (un t).2 + 1) := by
  cases t with
  | nil => simp [un, h]
  | cons y t => simp only [un]; rw [if_neg h]
theorem un_two (t : List Int) : un (255 :: 0 :: t) = (255 :: (un t).1, (un t).2 + 2) := by simp [un]
theorem un_stop (y : Int) (t : List Int) (h : y ≠ 0) : un (255 :: y :: t) = ([], 0) := by simp [un, h]
theorem un_one : un [255] = ([], 0) := by simp [un]
theorem un_facts : ∀ (n : Nat) (l : List Int), l.length ≤ n → (un l).2 ≤ l.length ∧ (un l).1.length ≤ l.length ∧ (l.drop (un l).2 = [] ∨ ∃ t, l.drop (un l).2 = 255 :: t) := by
  intro n
  induction n with
  | zero =>
    intro l h
    obtain rfl : l = [] := List.eq_nil_of_length_eq_zero (by omega)
    simp [un]
  | succ n ih =>
    intro l h
    match l, h with
    | [], _ => simp [un]
    | x :: t, h =>
      by_cases hx : x = 255
      · subst hx
        match t, h with
        | [], _ => rw [un_one]; simp
        | y :: t, h =>
          by_cases hy : y = 0
          · subst hy
            rw [un_two]
            obtain ⟨h1, h2, h3⟩ := ih t (by simp at h; omega)
            refine ⟨by simp; omega, by simp; omega, ?_⟩
            simpa using h3
          · rw [un_stop y t hy]; simp
      · rw [un_ne x t hx]
        obtain ⟨h1, h2, h3⟩ := ih t (by simp at h; omega)
        refine ⟨by simp; omega, by simp; omega, ?_⟩
        simpa using h3
theorem un_le (l : List Int) : (un l).2 ≤ l.length := (un_facts _ l (Nat.le_refl _)).1
theorem un_len (l : List Int) : (un l).1.length ≤ l.length := (un_facts _ l (Nat.le_refl _)).2.1
theorem un_end (l : List Int) : l.drop (un l).2 = [] ∨ ∃ t, l.drop (un l).2 = 255 :: t := (un_facts _ l (Nat.le_refl _)).2.2
theorem drop_two (b : List Int) (i : Nat) (h : i + 1 < b.length) : b.drop i = b[i] :: b[i + 1] :: b.drop (i + 2) := by
  rw [List.drop_eq_getElem_cons (by omega), List.drop_eq_getElem_cons h]
theorem drop_last (b : List Int) (i : Nat) (h : i < b.length) (h2 : i + 1 = b.length) : b.drop i = [b[i]] := by
  rw [List.drop_eq_getElem_cons h, List.drop_of_length_le (by omega)]

end Go.Proofs.Ytcjjmfpkhhdmlaa.G
