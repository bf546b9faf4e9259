-- Written by gp.py (a program of this session's, over the kit's print). Not trusted: Lean checks it.
import Derived.Test.YtcjjmfpkhhdmlaaG0h
import Derived.Test.YtcjjmfpkhhdmlaaGLib
import Derived.BigRegion
namespace Go.Proofs.Ytcjjmfpkhhdmlaa.G
open Go.RowKit Go.Proofs.YtcjjmfpkhhdmlaaW.PrintWords Go.Proofs.YtcjjmfpkhhdmlaaW.PrintLast Go.Proofs.YtcjjmfpkhhdmlaaW.PrintMore
attribute [local go_sem] max2_int min2_int max_two min_two max_three min_three max_four min_four   -- for this text's walks alone
set_option linter.unusedVariables false
set_option linter.unusedSimpArgs false

--import Derived.BigRegion
/-! the program's reader of bits -/
def BR (w0 W : World) (g : Nat) (b : List Int) (bits many : Int) : Prop := ∃ A c, W.heap[g]? = some (.cells #[.slice A b.length c, .int .i64 bits, .int .i64 many] 100 (0, 0)) ∧ w0.heap.size ≤ g ∧ Kd.C (Kd.int .u8) w0 A b.length b ∧ b.length ≤ c
theorem BR.below {w0 W W1 : World} {g : Nat} {b : List Int} {bits many : Int} (h : BR w0 W g b bits many) (hb : Below W.heap.size W W1) : BR w0 W1 g b bits many := by
  obtain ⟨A, c, h1, h2⟩ := h
  exact ⟨A, c, (hb.block g (blk_lt h1)).trans h1, h2⟩
theorem BR.drewN {w0 W : World} {g : Nat} {b : List Int} {bits many : Int} (h : BR w0 W g b bits many) (n : Nat) : BR w0 (W.drewN n) g b bits many := h
theorem BR.grown {w0 W W1 : World} {g : Nat} {b : List Int} {bits many : Int} {row : Option Nat} (h : BR w0 W g b bits many) (hg : W.grownBy W1 row) (hne : some g ≠ row) : BR w0 W1 g b bits many := by
  obtain ⟨A, c, h1, h2⟩ := h
  exact ⟨A, c, blk_grown h1 hg hne, h2⟩
/-- bytes are taken until there are n bits -/
def fillM (n : Int) : List Int → Int → Int → Option (List Int × Int × Int)
  | [], q, m => if m < n then none else some ([], q, m)
  | x :: b, q, m => if m < n then fillM n b (q * 256 + x) (m + 8) else some (x :: b, q, m)
theorem fillM_more {n : Int} {x : Int} {b : List Int} {q m : Int} (h : m < n) : fillM n (x :: b) q m = fillM n b (q * 256 + x) (m + 8) := by simp [fillM, h]
theorem fillM_done {n : Int} {b : List Int} {q m : Int} (h : ¬ m < n) : fillM n b q m = some (b, q, m) := by cases b <;> simp [fillM, h]
theorem pow_cast (k B : Nat) (h : 2 ^ k ≤ B) : (2 : Int) ^ k ≤ (B : Int) := by
  have h3 := Int.ofNat_le.2 h
  rw [Int.natCast_pow] at h3
  exact h3
theorem pow_one (k : Nat) : (1 : Int) ≤ 2 ^ k := by
  have h3 := Int.ofNat_le.2 (Nat.one_le_two_pow (n := k))
  rw [Int.natCast_pow] at h3
  exact h3
theorem pow_le16 (m n : Int) (h : m < n) (hn : n ≤ 16) : (2 : Int) ^ m.toNat ≤ 65536 := by
  have h1 : m.toNat ≤ 16 := by omega
  have h2 := Nat.pow_le_pow_right (n := 2) (by decide) h1
  exact pow_cast _ 65536 h2
theorem or_byte (q x : Int) (h0 : 0 ≤ q) (h1 : q ≤ 65536) (hx0 : 0 ≤ x) (hx1 : x ≤ 255) : Go.bits .or .i64 (q * 256) x = q * 256 + x :=
  bits_join .i64 62 (by decide) (fun n h0 h1 => by rw [IntKind.wrap_i64]; omega) 8 (q * 256) x (by omega) (by omega) (by omega) hx0 (by omega) (by omega)
theorem and_mask (q : Int) (k : Nat) (h0 : 0 ≤ q) (h1 : q < 16777216) (hk : k ≤ 23) : Go.bits .and .i64 q (wrap64 (wrap64 (2 ^ k) - 1)) = q % 2 ^ k := by
  have h2 := Nat.pow_le_pow_right (n := 2) (by decide) hk
  have h3 : (2 : Int) ^ k ≤ 8388608 := pow_cast _ 8388608 h2
  have h4 : (1 : Int) ≤ 2 ^ k := pow_one k
  rw [wrap_in (2 ^ k) (by omega) (by omega), wrap_in _ (by omega) (by omega)]
  exact bits_mask .i64 62 (by decide) (fun n h0 h1 => by rw [IntKind.wrap_i64]; omega) k (by omega) q h0 (by omega)
theorem pow_bits (m : Int) (h0 : 0 ≤ m) (h : m ≤ 23) : (2 : Int) ^ m.toNat ≤ 8388608 := by
  have h1 : m.toNat ≤ 23 := by omega
  have h2 := Nat.pow_le_pow_right (n := 2) (by decide) h1
  exact pow_cast _ 8388608 h2
theorem BR.shift {w0 W : World} {g c : Nat} {x : Int} {b : List Int} {q m q' m' : Int} {ad : Addr} (hb : W.heap[g]? = some (.cells #[.slice (some ad) (x :: b).length c, .int .i64 q, .int .i64 m] 100 (0, 0))) (hg : w0.heap.size ≤ g) (hC : Kd.C (Kd.int .u8) w0 (some ad) (x :: b).length (x :: b)) (hc : (x :: b).length ≤ c) :
    BR w0 (((W.setCell ⟨g, 1, none⟩ (.int .i64 q')).setCell ⟨g, 2, none⟩ (.int .i64 m')).setCell ⟨g, 0, none⟩ (.slice (if c = 1 then some ad else some (ad.add 1)) b.length (c - 1))).drew g b q' m' := by
  have hD := Kd.C_drop (m := 1) hC (by simp) hc
  rw [show (some ad).map (·.add (1 * (Kd.int .u8).sz)) = some (ad.add 1) from rfl] at hD
  refine ⟨_, c - 1, ?_, hg, hD, by simp at hc; omega⟩
  have h6 := blk_set (blk_set (blk_set hb 1 (.int .i64 q')) 2 (.int .i64 m')) 0 (.slice (if c = 1 then some ad else some (ad.add 1)) b.length (c - 1))
  exact h6
def TakeRel (w0 : World) (g : Nat) (n : Int) (R : Option (List Int × Int × Int)) (kq : Nat) (w w' : World) : Prop :=
  ∃ (b : List Int) (q m : Int), Aside0 (BR w0 w' g b q m) ∧ Aside0 (Below w0.heap.size w0 w') ∧ Aside0 (∀ x ∈ b, 0 ≤ x ∧ x ≤ 255) ∧ Aside0 (fillM n b q m = R) ∧ Aside0 (KeepBut w w' g none) ∧ Aside0 (q < 2 ^ m.toNat) ∧ kq = b.length + 1 ∧ 0 ≤ q ∧ 0 ≤ m ∧ m ≤ 23
def TakePost (w0 : World) (g : Nat) (n : Int) (R : Option (List Int × Int × Int)) (w : World) (e : Ending) (w' : World) : Prop :=
  Below w0.heap.size w0 w' ∧ KeepBut w w' g none ∧
  match R with
  | none => e = .returned (.tuple #[.int .i64 0, .bool false])
  | some (b, q, m) => e = .returned (.tuple #[.int .i64 (q / 2 ^ (m - n).toNat), .bool true]) ∧ BR w0 w' g b (q % 2 ^ (m - n).toNat) (m - n) ∧ (∀ x ∈ b, 0 ≤ x ∧ x ≤ 255) ∧ n ≤ m ∧ m ≤ 23
theorem keep_set {w W : World} {g : Nat} (h : KeepBut w W g none) (i : Nat) (u : Value) : KeepBut w (W.setCell ⟨g, i, none⟩ u) g none :=
  ⟨by simpa [World.setCell] using h.1, fun k hk hg hr => (Below.heap_setCell W ⟨g, i, none⟩ u k hg).trans (h.2 k hk hg hr)⟩
set_option maxRecDepth 100000 in
set_option maxHeartbeats 4000000 in
theorem take_calls (w0 w : World) (g : Nat) (b : List Int) (q m n : Int) (R : Option (List Int × Int × Int)) (hB : Below w0.heap.size w0 w) (h : BR w0 w g b q m) (h0 : 0 ≤ q) (h1 : q < 2 ^ m.toNat) (h2 : 0 ≤ m) (h3 : m ≤ 23) (h4 : 0 ≤ n) (h5 : n ≤ 16) (hbb : ∀ x ∈ b, 0 ≤ x ∧ x ≤ 255) (hR : fillM n b q m = R) :
    Calls Try.prog 147 #[.pointer (some ⟨g, 0, none⟩), .int .i64 n] w (TakePost w0 g n R w) := by
  have HR := Aside0.mk h
  have HB := Aside0.mk hB
  have HBB := Aside0.mk hbb
  have HF := Aside0.mk hR
  have HQ := Aside0.mk h1
  clear h hB hbb hR h1
  go_enter Try.func147, Try.ntmps147
  go_wp2
  go_loopg [] (b.length + 1) (fun kq w' => TakeRel w0 g n R kq w w')
  case atStart => exact ⟨b, q, m, HR, HB, HBB, HF, ⟨⟨Nat.le_refl _, fun _ _ _ _ => rfl⟩⟩, HQ, rfl, h0, h2, h3⟩
  case round =>
    clear HR HB HBB HF HQ h0 h2 h3
    obtain ⟨b', q', m', HR, HB, HBB, HF, HK, HQ, rfl, p0, p2, p3⟩ := hrel
    obtain ⟨A, c, hb, hg, hC, hc⟩ := HR.out
    have k0 := blk_cell hb 0
    have k1 := blk_cell hb 1
    have k2 := blk_cell hb 2
    simp at k0 k1 k2
    have f0 := blk_frozen hb 0
    have f1 := blk_frozen hb 1
    have f2 := blk_frozen hb 2
    have HBL := Aside0.mk hb
    have HG := Aside0.mk hg
    have HC := Aside0.mk hC
    have HCL := Aside0.mk hc
    clear hb hg
    by_cases hlt : m' < n
    · have p1 : q' ≤ 65536 := by have := pow_le16 m' n hlt h5; have := HQ.out; omega
      cases b' with
      | nil =>
        clear hC hc
        go_wp2
        go_ret2
        have : R = none := by rw [← HF.out]; simp [fillM, hlt]
        subst this
        exact ⟨HB.out, HK.out, rfl⟩
      | cons x b'' =>
        obtain ⟨ad, e1, hcell⟩ := Kd.at_int hC 0 (by omega) (by simp)
        cases e1
        replace hcell := (HB.out.cell (World.block_lt_of_cell? w0 _ hcell)).trans hcell
        rw [show (0 : Int).toNat = 0 from rfl, Addr.add_zero', show rd (x :: b'') 0 = x from rfl] at hcell
        obtain ⟨hx0, hx1⟩ := HBB.out x List.mem_cons_self
        clear hC hc
        have hor := or_byte q' x p0 p1 hx0 hx1
        have HOR := Aside0.mk hor
        clear hor
        have hcl := HCL.out
        simp only [List.length_cons] at hcl
        by_cases hc1 : c = 1
        all_goals
          (try subst hc1)
          have HCC := Aside0.mk hcl
          clear hcl
          go_wp2
          go_region
          go_wp2
          go_roundg (b''.length + 1)
          case rel =>
            refine ⟨b'', q' * 256 + x, m' + 8, ⟨?_⟩, ⟨?_⟩, ⟨fun y hy => HBB.out y (List.mem_cons_of_mem _ hy)⟩, ⟨?_⟩, ⟨?_⟩, ⟨?_⟩, rfl, by omega, by omega, by omega⟩
            · have h7 := BR.shift (q' := q' * 256 + x) (m' := m' + 8) HBL.out HG.out HC.out HCL.out
              rw [HOR.out]
              first | exact h7 | (rw [if_neg hc1] at h7; exact h7)
            · exact below_drew (below_set (below_set (below_set HB.out HG.out) HG.out) HG.out)
            · rw [← HF.out, fillM_more hlt]
            · exact keep_set (keep_set (keep_set HK.out _ _) _ _) _ _
            · have := HQ.out
              rw [show (m' + 8).toNat = m'.toNat + 8 by omega, Int.pow_add]
              omega
          case measure => simp
    · have p1 := pow_bits m' p2 p3
      have p4 : q' < 16777216 := by have := HQ.out; omega
      clear hC hc
      go_wp2
      go_quiet (fail)
      go_wp2
      go_region
      go_wp2
      go_ret2
      have hR : R = some (b', q', m') := by rw [← HF.out, fillM_done (by omega)]
      subst hR
      refine ⟨below_set (pw_below_drewN (below_set HB.out HG.out) _) HG.out, keep_set (keep_set HK.out _ _) _ _, rfl, ?_, HBB.out, by omega, p3⟩
      rw [and_mask q' _ p0 p4 (by omega)]
      refine ⟨A, c, ?_, HG.out, HC.out, HCL.out⟩
      have h6 := blk_set (blk_set HBL.out 2 (.int .i64 (m' - n))) 1 (.int .i64 (q' % 2 ^ (m' - n).toNat))
      exact h6
/-- the numbers of so many bits each, told from the bytes, the bits that are over, and how many these are -/
def unpackI : List Int → List Int → Int → Int → Option (List Int)
  | [], _, _, _ => some []
  | n :: ns, b, q, m => if 0 ≤ n ∧ n ≤ 16 then
      match fillM n b q m with
      | none => none
      | some (b', q', m') => (unpackI ns b' (q' % 2 ^ (m' - n).toNat) (m' - n)).map (q' / 2 ^ (m' - n).toNat :: ·)
    else none
/-- bytes -/
def isB (b : List Int) : Bool := b.all fun x => decide (0 ≤ x) && decide (x ≤ 255)
theorem isB_all {b : List Int} (h : isB b = true) : ∀ x ∈ b, 0 ≤ x ∧ x ≤ 255 := by
  unfold isB at h; simp only [List.all_eq_true, Bool.and_eq_true, decide_eq_true_eq] at h; exact h

end Go.Proofs.Ytcjjmfpkhhdmlaa.G
