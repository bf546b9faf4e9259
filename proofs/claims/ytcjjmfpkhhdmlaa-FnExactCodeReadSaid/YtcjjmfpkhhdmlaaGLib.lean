-- Written by gp.py (a program of this session's, over the kit's print). Not trusted: Lean checks it.
import Derived.Test.YtcjjmfpkhhdmlaaG0h
namespace Go.Proofs.Ytcjjmfpkhhdmlaa.G
open Go.RowKit Go.Proofs.YtcjjmfpkhhdmlaaW.PrintWords Go.Proofs.YtcjjmfpkhhdmlaaW.PrintLast Go.Proofs.YtcjjmfpkhhdmlaaW.PrintMore
attribute [local go_sem] max2_int min2_int max_two min_two max_three min_three max_four min_four   -- for this text's walks alone
set_option linter.unusedVariables false
set_option linter.unusedSimpArgs false

/-! what several texts use -/
theorem S_put1 {α : Type} {d : Kd α} {e g n cap base : Nat} {W w1 : World} {xs : List α} {u : Value} {x' : α} (hd : d.sz = 1) (h : Kd.S d e W base (fun _ => True) (.slice (some ⟨g, 0, none⟩) n cap) xs) (hb : Below W.heap.size W w1) (z : α) (i : Int) (h0 : 0 ≤ i) (h1 : i < n)
    (hM : d.M w1 base (fun k => W.heap.size ≤ k) x' [u]) : Kd.S d e (w1.setCell ⟨g, i.toNat, none⟩ u) base (fun _ => True) (.slice (some ⟨g, 0, none⟩) n cap) (xs.set i.toNat x') := by
  have hg : g < W.heap.size := Kd.S_lt h g rfl
  have h2 : Kd.S d e w1 base (fun k => True ∧ ¬ W.heap.size ≤ k) (.slice (some ⟨g, 0, none⟩) n cap) xs := Kd.S_mono (Kd.S_old h hb) (fun k hk => ⟨trivial, Nat.not_le.2 hk.2⟩)
  obtain ⟨oki, c, hcl, hM0, hcc, hfr, hoki, hH⟩ := Kd.S_elem h2 z i h0 h1
  obtain ⟨q, rfl⟩ := List.length_eq_one_iff.1 (hcl.trans hd)
  have := Kd.S_seg (okg := fun k => W.heap.size ≤ k) (okp := fun k => W.heap.size ≤ k) hH h0 h1 (seg := [u]) (j := 0) (by simp [hd]) (x' := x') (by
    simpa using hM) (fun k hk => .inr hk) (fun k hk => ⟨trivial, by intro he; subst he; omega⟩)
  have h3 := this.1
  rw [hd, Nat.mul_one, Nat.add_zero] at h3
  exact h3
theorem S_cell {α : Type} {d : Kd α} {e g n cap base : Nat} {W : World} {ok : Nat → Prop} {xs : List α} (hd : d.sz = 1) (h : Kd.S d e W base ok (.slice (some ⟨g, 0, none⟩) n cap) xs) (z : α) (i : Int) (h0 : 0 ≤ i) (h1 : i < n) :
    (∃ u, W.cell? ⟨g, i.toNat, none⟩ = some u) ∧ W.frozen? ⟨g, i.toNat, none⟩ = false := by
  obtain ⟨oki, c, hcl, hM0, hcc, hfr, hoki, hH⟩ := Kd.S_elem h z i h0 h1
  rw [hd] at hcc hfr hcl
  obtain ⟨u, rfl⟩ := List.length_eq_one_iff.1 hcl
  exact ⟨⟨u, by have := hcc 0 u rfl; rwa [Nat.mul_one, Nat.add_zero] at this⟩, by have := hfr 0; rwa [Nat.mul_one, Nat.add_zero] at this⟩
theorem fill_set {α : Type} (l : List α) (z : α) (i : Nat) (hi : i < l.length) : (l.take i ++ List.replicate (l.length - i) z).set i l[i] = l.take (i + 1) ++ List.replicate (l.length - (i + 1)) z := by
  rw [show l.length - i = (l.length - (i + 1)) + 1 by omega, List.replicate_succ, List.take_succ_eq_append_getElem hi, List.append_assoc]
  rw [List.set_append_right _ _ (by simp; omega)]
  simp [Nat.min_eq_left (Nat.le_of_lt hi)]
/-! rounds -/
theorem Ev.ip {α : Type} {c : Prop} [Decidable c] {g f : Nat → Option α} {r : α} (hc : c) (h : Ev g r) : Ev (fun n => if c then g n else f n) r := by
  obtain ⟨K, h⟩ := h
  exact ⟨K, fun n hn => by show (if c then g n else f n) = some r; rw [if_pos hc]; exact h n hn⟩
theorem Ev.ng {α : Type} {c : Prop} [Decidable c] {g f : Nat → Option α} {r : α} (hc : ¬ c) (h : Ev f r) : Ev (fun n => if c then g n else f n) r := by
  obtain ⟨K, h⟩ := h
  exact ⟨K, fun n hn => by show (if c then g n else f n) = some r; rw [if_neg hc]; exact h n hn⟩
theorem Ev.c {α : Type} {x : Option α} {r : α} (h : x = some r) : Ev (fun _ => x) r := ⟨0, fun _ _ => h⟩
theorem Ev.eq {α : Type} {g : Nat → Option α} {r r' : α} (h : Ev g r) (e : r = r') : Ev g r' := e ▸ h
theorem rd_nat (l : List Int) (i : Nat) (h : i < l.length) : rd l (i : Int) = l[i] := by simp [rd, h]
theorem wrap_succ (i : Nat) (h : i < 9223372036854775807) : wrap64 ((i : Int) + 1) = ((i + 1 : Nat) : Int) := by unfold wrap64; omega
theorem wrap_in (x : Int) (h1 : -9223372036854775808 ≤ x) (h2 : x ≤ 9223372036854775807) : wrap64 x = x := by unfold wrap64; omega
/-- all numbers lie between two others -/
def allW (lo hi : Int) (l : List Int) : Bool := l.all fun x => decide (lo ≤ x) && decide (x ≤ hi)
/-- a pixel -/
def isPx (px : List Int) : Bool := decide (px.length = 3) && allW 0 255 px
/-- the sum of the squares of the three differences -/
def dist (c px : List Int) : Int := (rd c 0 - rd px 0) * (rd c 0 - rd px 0) + (rd c 1 - rd px 1) * (rd c 1 - rd px 1) + (rd c 2 - rd px 2) * (rd c 2 - rd px 2)
/-- the first of the nearest colours, from one on -/
def nearGo (px : List Int) : List (List Int) → Int → Int → Int → Int
  | [], _, best, _ => best
  | c :: cs, i, best, least => if least < 0 ∨ dist c px < least then nearGo px cs (i + 1) i (dist c px) else nearGo px cs (i + 1) best least
theorem sq_bound (d : Int) (h1 : -255 ≤ d) (h2 : d ≤ 255) : 0 ≤ d * d ∧ d * d ≤ 65025 := by
  have e : d * d = ((d.natAbs * d.natAbs : Nat) : Int) := by rw [Int.natCast_mul, Int.natAbs_mul_self']
  have h3 : d.natAbs ≤ 255 := by omega
  have h4 : d.natAbs * d.natAbs ≤ 255 * 255 := Nat.mul_le_mul h3 h3
  omega
theorem isPx_three {px : List Int} (h : isPx px = true) : ∃ a b c, px = [a, b, c] ∧ 0 ≤ a ∧ a ≤ 255 ∧ 0 ≤ b ∧ b ≤ 255 ∧ 0 ≤ c ∧ c ≤ 255 := by
  unfold isPx allW at h
  rw [Bool.and_eq_true, decide_eq_true_eq, List.all_eq_true] at h
  obtain ⟨hl, ha⟩ := h
  match px, hl with
  | [a, b, c], _ =>
    have h1 := ha a (by simp)
    have h2 := ha b (by simp)
    have h3 := ha c (by simp)
    simp only [Bool.and_eq_true, decide_eq_true_eq] at h1 h2 h3
    exact ⟨a, b, c, rfl, h1.1, h1.2, h2.1, h2.2, h3.1, h3.2⟩
theorem sq_step (s a p : Int) (h0 : 0 ≤ s) (h1 : s ≤ 130050) (ha : 0 ≤ a) (ha' : a ≤ 255) (hp : 0 ≤ p) (hp' : p ≤ 255) : wrap64 (s + wrap64 (wrap64 (a - p) * wrap64 (a - p))) = s + (a - p) * (a - p) := by
  have h := sq_bound (a - p) (by omega) (by omega)
  rw [wrap_in (a - p) (by omega) (by omega), wrap_in ((a - p) * (a - p)) (by omega) (by omega), wrap_in _ (by omega) (by omega)]
theorem w64_1 : wrap64 (0 + 1) = 1 := by unfold wrap64; omega
theorem w64_2 : wrap64 (1 + 1) = 2 := by unfold wrap64; omega
theorem w64_3 : wrap64 (2 + 1) = 3 := by unfold wrap64; omega
/-- colours -/
def isCols (l : List (List Int)) : Bool := decide (1 ≤ l.length) && decide (l.length ≤ 256) && l.all isPx
theorem isCols_all {l : List (List Int)} (h : isCols l = true) : ∀ c ∈ l, isPx c = true := by
  unfold isCols at h; simp only [Bool.and_eq_true, List.all_eq_true] at h; exact h.2
theorem isCols_len {l : List (List Int)} (h : isCols l = true) : 1 ≤ l.length ∧ l.length ≤ 256 := by
  unfold isCols at h; simp only [Bool.and_eq_true, decide_eq_true_eq] at h; exact h.1
/-- numbers that rise by one -/
def rising (a : Int) : Nat → List Int
  | 0 => []
  | n + 1 => a :: rising (a + 1) n
theorem rising_length (a : Int) (n : Nat) : (rising a n).length = n := by
  induction n generalizing a with
  | zero => rfl
  | succ n ih => simp [rising, ih]
theorem rising_snoc (a : Int) (n : Nat) : rising a (n + 1) = rising a n ++ [a + n] := by
  induction n generalizing a with
  | zero => simp [rising]
  | succ n ih => rw [rising, ih]; simp [rising, Int.add_assoc, Int.add_comm 1]
theorem rising_get (a : Int) (n i : Nat) (h : i < (rising a n).length) : (rising a n)[i] = a + i := by
  induction n generalizing a i with
  | zero => simp [rising] at h
  | succ n ih =>
    cases i with
    | zero => simp [rising]
    | succ i => simp only [rising, List.getElem_cons_succ]; rw [ih]; omega
def risingB (a : Int) (n : Nat) : List Int := (rising a n).map (· % 256)
theorem risingB_length (a : Int) (n : Nat) : (risingB a n).length = n := by simp [risingB, rising_length]
theorem risingB_snoc (a : Int) (n : Nat) : risingB a (n + 1) = risingB a n ++ [(a + n) % 256] := by simp [risingB, rising_snoc]
theorem wf_u8 {x : Int} (h : (Lit.int .u8 x).wf = true) : 0 ≤ x ∧ x ≤ 255 := by
  simp only [Lit.wf, Bool.and_eq_true, decide_eq_true_eq] at h
  have h1 : IntKind.u8.min = 0 := rfl
  have h2 : IntKind.u8.max = 255 := rfl
  omega
theorem wf_i64 {x : Int} (h : (Lit.int .i64 x).wf = true) : -9223372036854775808 ≤ x ∧ x ≤ 9223372036854775807 := by
  simp only [Lit.wf, Bool.and_eq_true, decide_eq_true_eq] at h
  have h1 : IntKind.i64.min = -9223372036854775808 := rfl
  have h2 : IntKind.i64.max = 9223372036854775807 := rfl
  omega

end Go.Proofs.Ytcjjmfpkhhdmlaa.G
