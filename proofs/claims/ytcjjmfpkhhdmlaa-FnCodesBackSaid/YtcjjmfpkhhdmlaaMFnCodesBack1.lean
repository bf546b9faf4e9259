import Derived.Test.YtcjjmfpkhhdmlaaProg
import Derived.Below
import Derived.Deep.Draws
import Derived.Deep.AppendLies
import Derived.Maps.AppendAt
import Derived.OwnWalk
import Derived.Laws.BytesArg
import Derived.Laws.MakeOwn
import Derived.Laws.OwnMore
import Derived.Deep.OwnRows
import Derived.Tactics
import Derived.Lib.ConvBytes
import Derived.Laws.Slices
import Derived.WalkKit
import Derived.KernelRfl
import Derived.RowKit3
import Derived.Deep.LoopGhost
import Derived.Deep.QuietTactic
import Derived.BigQuiet
import Derived.WideLaws
import Derived.Deep.DeepCutAuto
import Derived.Deep.CutBlock
import Derived.Deep.RegionHeld3
import Derived.Laws.Rows
import Derived.Lib.AppendStr
import Derived.ArgAppend
import Derived.Laws.IdiomCopy
import Derived.OrdersHeld
import Derived.Laws.BitsLemmas
import Derived.RowKit
import Derived.Test.YtcjjmfpkhhdmlaaMFnCodesBackWWords
import Derived.Test.YtcjjmfpkhhdmlaaMFnCodesBackWLast
import Derived.Test.YtcjjmfpkhhdmlaaMFnCodesBackWTab
import Derived.Test.YtcjjmfpkhhdmlaaMFnCodesBackWFour
import Derived.Test.YtcjjmfpkhhdmlaaMFnCodesBackWQPut
import Derived.Test.YtcjjmfpkhhdmlaaMFnCodesBackWApart
import Derived.Test.YtcjjmfpkhhdmlaaMFnCodesBackWArr
import Derived.Test.YtcjjmfpkhhdmlaaMFnCodesBackWZeros
import Derived.Test.YtcjjmfpkhhdmlaaMFnCodesBackWFoot
import Derived.Test.YtcjjmfpkhhdmlaaMFnCodesBackWKept
import Derived.Test.YtcjjmfpkhhdmlaaMFnCodesBackWShare
import Derived.Test.YtcjjmfpkhhdmlaaMFnCodesBackWN
import Derived.Test.YtcjjmfpkhhdmlaaMFnCodesBackWFootNe
import Derived.Test.YtcjjmfpkhhdmlaaMFnCodesBackWAt
import Derived.Test.YtcjjmfpkhhdmlaaMFnCodesBackWEqStruct
import Derived.Test.YtcjjmfpkhhdmlaaMFnCodesBackWRepsOne
import Derived.Test.YtcjjmfpkhhdmlaaMFnCodesBackWInv
import Derived.Test.YtcjjmfpkhhdmlaaMFnCodesBackWInvWords
import Derived.Test.YtcjjmfpkhhdmlaaMFnCodesBackWGuard
import Derived.Test.YtcjjmfpkhhdmlaaMFnCodesBackWNEv
import Derived.Test.YtcjjmfpkhhdmlaaMFnCodesBackWMore
import Derived.BigRegion
import Derived.Deep.RegionLaw
import Derived.StillTailTactics
import Derived.Maps.OwnSet
import Derived.Maps.Own
import Derived.DeepKeys4
set_option linter.unusedVariables false
set_option linter.unusedSimpArgs false
namespace Go.Proofs.Ytcjjmfpkhhdmlaa.G
open Go.RowKit Go.Proofs.YtcjjmfpkhhdmlaaW.PrintWords Go.Proofs.YtcjjmfpkhhdmlaaW.PrintLast Go.Proofs.YtcjjmfpkhhdmlaaW.PrintMore
attribute [local go_sem] max2_int min2_int max_two min_two max_three min_three max_four min_four   -- for this text's walks alone
def errW : Option Int → Value
 | none => .nilIface
 | some c => .iface 0 (.int .i64 c)
theorem errW_none : errW none = .nilIface := rfl
theorem errW_some (c : Int) : errW (some c) = .iface 0 (.int .i64 c) := rfl
theorem info3 : (Try.prog.info? 3).map (fun i => (i.zero, i.size, i.bytes)) = some (some (.int .i64 0), 1, 8) := by kernel_rfl
theorem info4 : (Try.prog.info? 4).map (fun i => (i.zero, i.size, i.bytes)) = some (some (.bool false), 1, 1) := by kernel_rfl
theorem info5 : (Try.prog.info? 5).map (fun i => (i.zero, i.size, i.bytes)) = some (some (.int .u8 0), 1, 1) := by kernel_rfl
theorem info124 : (Try.prog.info? 124).map (fun i => (i.zero, i.size, i.bytes)) = some (some (.agg #[(.int .i64 0), (.int .i64 0)]), 2, 16) := by kernel_rfl
theorem info167 : (Try.prog.info? 167).map (fun i => (i.zero, i.size, i.bytes)) = some (some (.agg #[(.int .i64 0), (.slice none 0 0)]), 2, 32) := by kernel_rfl
-- the values' own types
structure S124 where
 f0 : Int
 f1 : Int
def z124 : S124 := ⟨(0 : Int), (0 : Int)⟩
def k124 : Kd S124 := Kd.iso (Kd.pair (Kd.int .i64) (Kd.int .i64)) (fun x : S124 => (x.f0, x.f1))
theorem k124_open {w : World} {x : S124} {cs : List Value} (h : k124.K w x cs) : cs = [.int .i64 x.f0, .int .i64 x.f1] := by
 obtain ⟨_, _, rfl, rfl, rfl⟩ := h
 exact rfl
theorem k124_openM {w : World} {base : Nat} {ok : Nat → Prop} {x : S124} {cs : List Value} (h : k124.M w base ok x cs) : cs = [.int .i64 x.f0, .int .i64 x.f1] := by
 obtain ⟨_, _, rfl, rfl, rfl⟩ := h
 exact rfl
theorem k124_mkM (w : World) (base : Nat) (ok : Nat → Prop) (x : S124)  : k124.M w base ok x [.int .i64 x.f0, .int .i64 x.f1] := ⟨[.int .i64 x.f0], [.int .i64 x.f1], rfl, rfl, rfl⟩
def rd_T124 (xs : List S124) (i : Int) : S124 := xs.getD i.toNat z124
theorem at_T124 {w : World} {A : Option Addr} {n : Nat} {xs : List S124} (h : Kd.C k124 w A n xs) (i : Int) (h0 : 0 ≤ i) (h1 : i < n) : ∃ ad , A = some ad ∧ w.cell? (ad.add (i.toNat * 2)) = some (.int .i64 (rd_T124 xs i).f0) ∧ w.cell? ⟨(ad.add (i.toNat * 2)).block, (ad.add (i.toNat * 2)).off + 1, none⟩ = some (.int .i64 (rd_T124 xs i).f1) := by
 obtain ⟨ad, c, e, _, hK, hc0⟩ := Kd.C_get h z124 i h0 h1
 have hc : ∀ j u, c[j]? = some u → w.cell? (ad.add (i.toNat * 2 + j)) = some u := hc0
 obtain rfl := k124_open hK
 exact ⟨ad, e, hc 0 _ rfl, by rw [← add_field _ _ 1 (by omega)]; exact hc 1 _ rfl⟩
structure S167 where
 f0 : Int
 f1 : (List Int)
def z167 : S167 := ⟨(0 : Int), ([] : List Int)⟩
def k167 : Kd S167 := Kd.iso (Kd.pair (Kd.int .i64) (Kd.slice 3 (Kd.int .i64))) (fun x : S167 => (x.f0, x.f1))
theorem k167_open {w : World} {x : S167} {cs : List Value} (h : k167.K w x cs) : ∃ A1 c1, cs = [.int .i64 x.f0, .slice A1 x.f1.length c1] ∧ x.f1.length ≤ c1 ∧ (Kd.int .i64).C w A1 x.f1.length x.f1 := by
 obtain ⟨_, _, rfl, rfl, ⟨A1, c1, rfl, l1, g1⟩⟩ := h
 exact ⟨A1, c1, rfl, l1, g1⟩
theorem k167_mk (w : World) (x : S167) {A1 : Option Addr} {c1 : Nat} (l1 : x.f1.length ≤ c1) (g1 : (Kd.int .i64).C w A1 x.f1.length x.f1) : k167.K w x [.int .i64 x.f0, .slice A1 x.f1.length c1] := ⟨[.int .i64 x.f0], [.slice A1 x.f1.length c1], rfl, rfl, ⟨A1, c1, rfl, l1, g1⟩⟩
theorem k167_openF {W : World} {ok : Nat → Prop} {x : S167} {cs : List Value} (h : Kd.FK k167 W ok x cs) : ∃ A1 c1, cs = [.int .i64 x.f0, .slice A1 x.f1.length c1] ∧ x.f1.length ≤ c1 ∧ Kd.F (Kd.int .i64) W ok A1 x.f1.length x.f1 := by
 obtain ⟨A1, c1, rfl, l1, _⟩ := k167_open (Kd.FK_now h)
 exact ⟨A1, c1, rfl, l1, (fun W' hW => by obtain ⟨A1_, c1_, he, l1_, g1_⟩ := k167_open (h W' hW); injection (Option.some.inj (show some (Value.slice A1 x.f1.length c1) = some (Value.slice A1_ x.f1.length c1_) from congrArg (fun l => l[1]?) he)) with ha_ _ _; rw [ha_]; exact g1_)⟩
theorem k167_mkF (W : World) (ok : Nat → Prop) (x : S167) {A1 : Option Addr} {c1 : Nat} (l1 : x.f1.length ≤ c1) (g1 : Kd.F (Kd.int .i64) W ok A1 x.f1.length x.f1) : Kd.FK k167 W ok x [.int .i64 x.f0, .slice A1 x.f1.length c1] := fun W2 hW => k167_mk W2 x l1 (g1 W2 hW)
def rd_T167 (xs : List S167) (i : Int) : S167 := xs.getD i.toNat z167
theorem at_T167 {w : World} {A : Option Addr} {n : Nat} {xs : List S167} (h : Kd.C k167 w A n xs) (i : Int) (h0 : 0 ≤ i) (h1 : i < n) : ∃ ad A1 c1, A = some ad ∧ w.cell? (ad.add (i.toNat * 2)) = some (.int .i64 (rd_T167 xs i).f0) ∧ w.cell? ⟨(ad.add (i.toNat * 2)).block, (ad.add (i.toNat * 2)).off + 1, none⟩ = some (.slice A1 (rd_T167 xs i).f1.length c1) ∧ (rd_T167 xs i).f1.length ≤ c1 ∧ (Kd.int .i64).C w A1 (rd_T167 xs i).f1.length (rd_T167 xs i).f1 := by
 obtain ⟨ad, c, e, _, hK, hc0⟩ := Kd.C_get h z167 i h0 h1
 have hc : ∀ j u, c[j]? = some u → w.cell? (ad.add (i.toNat * 2 + j)) = some u := hc0
 obtain ⟨A1, c1, rfl, l1, g1⟩ := k167_open hK
 exact ⟨ad, A1, c1, e, hc 0 _ rfl, by rw [← add_field _ _ 1 (by omega)]; exact hc 1 _ rfl, l1, g1⟩
structure S131 where
 f0 : Int
 f1 : (List Int)
structure S65 where
 f0 : Int
 f1 : Int
structure S71 where
 f0 : Int
 f1 : Int
structure S73 where
 f0 : (List Int)
 f1 : Int
 f2 : Bool
 f3 : S71
structure S77 where
 f0 : (List Int)
 f1 : Int
 f2 : Bool
 f3 : S65
end Go.Proofs.Ytcjjmfpkhhdmlaa.G


namespace Go.Proofs.Ytcjjmfpkhhdmlaa.G
open Go.RowKit Go.Proofs.YtcjjmfpkhhdmlaaW.PrintWords Go.Proofs.YtcjjmfpkhhdmlaaW.PrintLast Go.Proofs.YtcjjmfpkhhdmlaaW.PrintMore
attribute [local go_sem] max2_int min2_int max_two min_two max_three min_three max_four min_four   -- for this text's walks alone
def impl_within.f (a0 : Int) (a1 : Int) (a2 : Int) : Option (Bool) := if a0 ≥ a1 then (some (decide (a0 ≤ a2))) else (some false)
set_option maxHeartbeats 8000000 in
set_option maxRecDepth 100000 in
theorem impl_within.calls (a0 : Int) (a1 : Int) (a2 : Int) (r : Bool) (w : World) (h : impl_within.f a0 a1 a2 = some r) :
  Calls Try.prog 81 #[.int .i64 a0, .int .i64 a1, .int .i64 a2] w fun e w' => e = .returned (.bool r) ∧ Drawn0 w w' := by
 have H : (if a0 ≥ a1 then (some (decide (a0 ≤ a2))) else (some false)) = some r := h
 clear h
 by_cases c4 : a0 ≥ a1
 ·rw [if_pos c4] at H
  have c4b0 : decide (a1 ≤ a0) = true := decide_eq_true c4
  clear c4
  obtain rfl := Option.some.inj H
  go_enter Try.func81, Try.ntmps81
  go_wp2
  go_ret
  exact ⟨by first | rfl | (simp; done) | (simp [*]; done), by repeat (first | exact Drawn0.refl _ | apply Drawn0.step)⟩
 ·rw [if_neg c4] at H
  have c4b0 : decide (a1 ≤ a0) = false := decide_eq_false c4
  clear c4
  obtain rfl := Option.some.inj H
  go_enter Try.func81, Try.ntmps81
  go_wp2
  go_ret
  exact ⟨by first | rfl | (simp; done) | (simp [*]; done), by repeat (first | exact Drawn0.refl _ | apply Drawn0.step)⟩
theorem impl_within.val (x lo hi : Int) : impl_within.f x lo hi = some (decide (lo ≤ x) && decide (x ≤ hi)) := by
 unfold impl_within.f
 by_cases h1 : x ≥ lo
 ·rw [if_pos h1]; simp [ge_iff_le.mp h1]
 ·rw [if_neg h1]; have : ¬ lo ≤ x := h1; simp [this]
end Go.Proofs.Ytcjjmfpkhhdmlaa.G


namespace Go.Proofs.Ytcjjmfpkhhdmlaa.G
open Go.RowKit Go.Proofs.YtcjjmfpkhhdmlaaW.PrintWords Go.Proofs.YtcjjmfpkhhdmlaaW.PrintLast Go.Proofs.YtcjjmfpkhhdmlaaW.PrintMore
attribute [local go_sem] max2_int min2_int max_two min_two max_three min_three max_four min_four   -- for this text's walks alone
theorem Ev.ip {α : Type} {c : Prop} [Decidable c] {g f : Nat → Option α} {r : α} (hc : c) (h : Ev g r) : Ev (fun n => if c then g n else f n) r := by
 obtain ⟨K, h⟩ := h
 exact ⟨K, fun n hn => by show (if c then g n else f n) = some r; rw [if_pos hc]; exact h n hn⟩
theorem Ev.ng {α : Type} {c : Prop} [Decidable c] {g f : Nat → Option α} {r : α} (hc : ¬ c) (h : Ev f r) : Ev (fun n => if c then g n else f n) r := by
 obtain ⟨K, h⟩ := h
 exact ⟨K, fun n hn => by show (if c then g n else f n) = some r; rw [if_neg hc]; exact h n hn⟩
theorem Ev.c {α : Type} {x : Option α} {r : α} (h : x = some r) : Ev (fun _ => x) r := ⟨0, fun _ _ => h⟩
theorem Ev.eq {α : Type} {g : Nat → Option α} {r r' : α} (h : Ev g r) (e : r = r') : Ev g r' := e ▸ h
theorem rd_nat (l : List Int) (i : Nat) (h : i < l.length) : rd l (i : Int) = l[i] := by simp [rd, h]
theorem wrap_succ (i : Nat) (h : i < 9223372036854775807) : wrap64 ((i : Int) + 1) = ((i + 1 : Nat) : Int) := by unfold wrap64; omega
theorem wrap_in (x : Int) (h1 : -9223372036854775808 ≤ x) (h2 : x ≤ 9223372036854775807) : wrap64 x = x := by unfold wrap64; omega
/-- all numbers lie between two others -/
def allW (lo hi : Int) (l : List Int) : Bool := l.all fun x => decide (lo ≤ x) && decide (x ≤ hi)
theorem wf_u8 {x : Int} (h : (Lit.int .u8 x).wf = true) : 0 ≤ x ∧ x ≤ 255 := by
 simp only [Lit.wf, Bool.and_eq_true, decide_eq_true_eq] at h
 have h1 : IntKind.u8.min = 0 := rfl
 have h2 : IntKind.u8.max = 255 := rfl
 omega
end Go.Proofs.Ytcjjmfpkhhdmlaa.G


namespace Go.Proofs.Ytcjjmfpkhhdmlaa.G
open Go.RowKit Go.Proofs.YtcjjmfpkhhdmlaaW.PrintWords Go.Proofs.YtcjjmfpkhhdmlaaW.PrintLast Go.Proofs.YtcjjmfpkhhdmlaaW.PrintMore
attribute [local go_sem] max2_int min2_int max_two min_two max_three min_three max_four min_four   -- for this text's walks alone
theorem keep_set {w W : World} {g : Nat} (h : KeepBut w W g none) (i : Nat) (u : Value) : KeepBut w (W.setCell ⟨g, i, none⟩ u) g none :=
 ⟨by simpa [World.setCell] using h.1, fun k hk hg hr => (Below.heap_setCell W ⟨g, i, none⟩ u k hg).trans (h.2 k hk hg hr)⟩
end Go.Proofs.Ytcjjmfpkhhdmlaa.G


namespace Go.Proofs.Ytcjjmfpkhhdmlaa.G
open Go.RowKit Go.Proofs.YtcjjmfpkhhdmlaaW.PrintWords Go.Proofs.YtcjjmfpkhhdmlaaW.PrintLast Go.Proofs.YtcjjmfpkhhdmlaaW.PrintMore
attribute [local go_sem] max2_int min2_int max_two min_two max_three min_three max_four min_four   -- for this text's walks alone
--import Derived.BigRegion
def BR (w0 W : World) (g : Nat) (b : List Int) (bits many : Int) : Prop := ∃ A c, W.heap[g]? = some (.cells #[.slice A b.length c, .int .i64 bits, .int .i64 many] 100 (0, 0)) ∧ w0.heap.size ≤ g ∧ Kd.C (Kd.int .u8) w0 A b.length b ∧ b.length ≤ c
theorem BR.below {w0 W W1 : World} {g : Nat} {b : List Int} {bits many : Int} (h : BR w0 W g b bits many) (hb : Below W.heap.size W W1) : BR w0 W1 g b bits many := by
 obtain ⟨A, c, h1, h2⟩ := h
 exact ⟨A, c, (hb.block g (blk_lt h1)).trans h1, h2⟩
theorem BR.drewN {w0 W : World} {g : Nat} {b : List Int} {bits many : Int} (h : BR w0 W g b bits many) (n : Nat) : BR w0 (W.drewN n) g b bits many := h
theorem BR.grown {w0 W W1 : World} {g : Nat} {b : List Int} {bits many : Int} {row : Option Nat} (h : BR w0 W g b bits many) (hg : W.grownBy W1 row) (hne : some g ≠ row) : BR w0 W1 g b bits many := by
 obtain ⟨A, c, h1, h2⟩ := h
 exact ⟨A, c, blk_grown h1 hg hne, h2⟩
/-- bytes are taken until there are n bits -/
def fillM (n : Int) : List Int → Int → Int → Option (List Int × Int × Int)
 | [], q, m => if m < n then none else some ([], q, m)
 | x :: b, q, m => if m < n then fillM n b (q * 256 + x) (m + 8) else some (x :: b, q, m)
theorem fillM_more {n : Int} {x : Int} {b : List Int} {q m : Int} (h : m < n) : fillM n (x :: b) q m = fillM n b (q * 256 + x) (m + 8) := by simp [fillM, h]
theorem fillM_done {n : Int} {b : List Int} {q m : Int} (h : ¬ m < n) : fillM n b q m = some (b, q, m) := by cases b <;> simp [fillM, h]
theorem pow_cast (k B : Nat) (h : 2 ^ k ≤ B) : (2 : Int) ^ k ≤ (B : Int) := by
 have h3 := Int.ofNat_le.2 h
 rw [Int.natCast_pow] at h3
 exact h3
theorem pow_one (k : Nat) : (1 : Int) ≤ 2 ^ k := by
 have h3 := Int.ofNat_le.2 (Nat.one_le_two_pow (n := k))
 rw [Int.natCast_pow] at h3
 exact h3
theorem pow_le16 (m n : Int) (h : m < n) (hn : n ≤ 16) : (2 : Int) ^ m.toNat ≤ 65536 := by
 have h1 : m.toNat ≤ 16 := by omega
 have h2 := Nat.pow_le_pow_right (n := 2) (by decide) h1
 exact pow_cast _ 65536 h2
theorem or_byte (q x : Int) (h0 : 0 ≤ q) (h1 : q ≤ 65536) (hx0 : 0 ≤ x) (hx1 : x ≤ 255) : Go.bits .or .i64 (q * 256) x = q * 256 + x :=
 bits_join .i64 62 (by decide) (fun n h0 h1 => by rw [IntKind.wrap_i64]; omega) 8 (q * 256) x (by omega) (by omega) (by omega) hx0 (by omega) (by omega)
theorem and_mask (q : Int) (k : Nat) (h0 : 0 ≤ q) (h1 : q < 16777216) (hk : k ≤ 23) : Go.bits .and .i64 q (wrap64 (wrap64 (2 ^ k) - 1)) = q % 2 ^ k := by
 have h2 := Nat.pow_le_pow_right (n := 2) (by decide) hk
 have h3 : (2 : Int) ^ k ≤ 8388608 := pow_cast _ 8388608 h2
 have h4 : (1 : Int) ≤ 2 ^ k := pow_one k
 rw [wrap_in (2 ^ k) (by omega) (by omega), wrap_in _ (by omega) (by omega)]
 exact bits_mask .i64 62 (by decide) (fun n h0 h1 => by rw [IntKind.wrap_i64]; omega) k (by omega) q h0 (by omega)
theorem pow_bits (m : Int) (h0 : 0 ≤ m) (h : m ≤ 23) : (2 : Int) ^ m.toNat ≤ 8388608 := by
 have h1 : m.toNat ≤ 23 := by omega
 have h2 := Nat.pow_le_pow_right (n := 2) (by decide) h1
 exact pow_cast _ 8388608 h2
theorem BR.shift {w0 W : World} {g c : Nat} {x : Int} {b : List Int} {q m q' m' : Int} {ad : Addr} (hb : W.heap[g]? = some (.cells #[.slice (some ad) (x :: b).length c, .int .i64 q, .int .i64 m] 100 (0, 0))) (hg : w0.heap.size ≤ g) (hC : Kd.C (Kd.int .u8) w0 (some ad) (x :: b).length (x :: b)) (hc : (x :: b).length ≤ c) :
  BR w0 (((W.setCell ⟨g, 1, none⟩ (.int .i64 q')).setCell ⟨g, 2, none⟩ (.int .i64 m')).setCell ⟨g, 0, none⟩ (.slice (if c = 1 then some ad else some (ad.add 1)) b.length (c - 1))).drew g b q' m' := by
 have hD := Kd.C_drop (m := 1) hC (by simp) hc
 rw [show (some ad).map (·.add (1 * (Kd.int .u8).sz)) = some (ad.add 1) from rfl] at hD
 refine ⟨_, c - 1, ?_, hg, hD, by simp at hc; omega⟩
 have h6 := blk_set (blk_set (blk_set hb 1 (.int .i64 q')) 2 (.int .i64 m')) 0 (.slice (if c = 1 then some ad else some (ad.add 1)) b.length (c - 1))
 exact h6
def TakeRel (w0 : World) (g : Nat) (n : Int) (R : Option (List Int × Int × Int)) (kq : Nat) (w w' : World) : Prop :=
 ∃ (b : List Int) (q m : Int), Aside0 (BR w0 w' g b q m) ∧ Aside0 (Below w0.heap.size w0 w') ∧ Aside0 (∀ x ∈ b, 0 ≤ x ∧ x ≤ 255) ∧ Aside0 (fillM n b q m = R) ∧ Aside0 (KeepBut w w' g none) ∧ Aside0 (q < 2 ^ m.toNat) ∧ kq = b.length + 1 ∧ 0 ≤ q ∧ 0 ≤ m ∧ m ≤ 23
def TakePost (w0 : World) (g : Nat) (n : Int) (R : Option (List Int × Int × Int)) (w : World) (e : Ending) (w' : World) : Prop :=
 Below w0.heap.size w0 w' ∧ KeepBut w w' g none ∧
 match R with
 | none => e = .returned (.tuple #[.int .i64 0, .bool false])
 | some (b, q, m) => e = .returned (.tuple #[.int .i64 (q / 2 ^ (m - n).toNat), .bool true]) ∧ BR w0 w' g b (q % 2 ^ (m - n).toNat) (m - n) ∧ (∀ x ∈ b, 0 ≤ x ∧ x ≤ 255) ∧ n ≤ m ∧ m ≤ 23
set_option maxRecDepth 100000 in
set_option maxHeartbeats 4000000 in
theorem take_calls (w0 w : World) (g : Nat) (b : List Int) (q m n : Int) (R : Option (List Int × Int × Int)) (hB : Below w0.heap.size w0 w) (h : BR w0 w g b q m) (h0 : 0 ≤ q) (h1 : q < 2 ^ m.toNat) (h2 : 0 ≤ m) (h3 : m ≤ 23) (h4 : 0 ≤ n) (h5 : n ≤ 16) (hbb : ∀ x ∈ b, 0 ≤ x ∧ x ≤ 255) (hR : fillM n b q m = R) :
  Calls Try.prog 147 #[.pointer (some ⟨g, 0, none⟩), .int .i64 n] w (TakePost w0 g n R w) := by
 have HR := Aside0.mk h
 have HB := Aside0.mk hB
 have HBB := Aside0.mk hbb
 have HF := Aside0.mk hR
 have HQ := Aside0.mk h1
 clear h hB hbb hR h1
 go_enter Try.func147, Try.ntmps147
 go_wp2
 go_loopg [] (b.length + 1) (fun kq w' => TakeRel w0 g n R kq w w')
 case atStart => exact ⟨b, q, m, HR, HB, HBB, HF, ⟨⟨Nat.le_refl _, fun _ _ _ _ => rfl⟩⟩, HQ, rfl, h0, h2, h3⟩
 case round =>
  clear HR HB HBB HF HQ h0 h2 h3
  obtain ⟨b', q', m', HR, HB, HBB, HF, HK, HQ, rfl, p0, p2, p3⟩ := hrel
  obtain ⟨A, c, hb, hg, hC, hc⟩ := HR.out
  have k0 := blk_cell hb 0
  have k1 := blk_cell hb 1
  have k2 := blk_cell hb 2
  simp at k0 k1 k2
  have f0 := blk_frozen hb 0
  have f1 := blk_frozen hb 1
  have f2 := blk_frozen hb 2
  have HBL := Aside0.mk hb
  have HG := Aside0.mk hg
  have HC := Aside0.mk hC
  have HCL := Aside0.mk hc
  clear hb hg
  by_cases hlt : m' < n
  ·have p1 : q' ≤ 65536 := by have := pow_le16 m' n hlt h5; have := HQ.out; omega
   cases b' with
   | nil =>
    clear hC hc
    go_wp2
    go_ret2
    have : R = none := by rw [← HF.out]; simp [fillM, hlt]
    subst this
    exact ⟨HB.out, HK.out, rfl⟩
   | cons x b'' =>
    obtain ⟨ad, e1, hcell⟩ := Kd.at_int hC 0 (by omega) (by simp)
    cases e1
    replace hcell := (HB.out.cell (World.block_lt_of_cell? w0 _ hcell)).trans hcell
    rw [show (0 : Int).toNat = 0 from rfl, Addr.add_zero', show rd (x :: b'') 0 = x from rfl] at hcell
    obtain ⟨hx0, hx1⟩ := HBB.out x List.mem_cons_self
    clear hC hc
    have hor := or_byte q' x p0 p1 hx0 hx1
    have HOR := Aside0.mk hor
    clear hor
    have hcl := HCL.out
    simp only [List.length_cons] at hcl
    by_cases hc1 : c = 1
    all_goals
     (try subst hc1)
     have HCC := Aside0.mk hcl
     clear hcl
     go_wp2
     go_region
     go_wp2
     go_roundg (b''.length + 1)
     case rel =>
      refine ⟨b'', q' * 256 + x, m' + 8, ⟨?_⟩, ⟨?_⟩, ⟨fun y hy => HBB.out y (List.mem_cons_of_mem _ hy)⟩, ⟨?_⟩, ⟨?_⟩, ⟨?_⟩, rfl, by omega, by omega, by omega⟩
      ·have h7 := BR.shift (q' := q' * 256 + x) (m' := m' + 8) HBL.out HG.out HC.out HCL.out
       rw [HOR.out]
       first | exact h7 | (rw [if_neg hc1] at h7; exact h7)
      ·exact below_drew (below_set (below_set (below_set HB.out HG.out) HG.out) HG.out)
      ·rw [← HF.out, fillM_more hlt]
      ·exact keep_set (keep_set (keep_set HK.out _ _) _ _) _ _
      ·have := HQ.out
       rw [show (m' + 8).toNat = m'.toNat + 8 by omega, Int.pow_add]
       omega
     case measure => simp
  ·have p1 := pow_bits m' p2 p3
   have p4 : q' < 16777216 := by have := HQ.out; omega
   clear hC hc
   go_wp2
   go_quiet (fail)
   go_wp2
   go_region
   go_wp2
   go_ret2
   have hR : R = some (b', q', m') := by rw [← HF.out, fillM_done (by omega)]
   subst hR
   refine ⟨below_set (pw_below_drewN (below_set HB.out HG.out) _) HG.out, keep_set (keep_set HK.out _ _) _ _, rfl, ?_, HBB.out, by omega, p3⟩
   rw [and_mask q' _ p0 p4 (by omega)]
   refine ⟨A, c, ?_, HG.out, HC.out, HCL.out⟩
   have h6 := blk_set (blk_set HBL.out 2 (.int .i64 (m' - n))) 1 (.int .i64 (q' % 2 ^ (m' - n).toNat))
   exact h6
/-- bytes -/
def isB (b : List Int) : Bool := b.all fun x => decide (0 ≤ x) && decide (x ≤ 255)
theorem isB_all {b : List Int} (h : isB b = true) : ∀ x ∈ b, 0 ≤ x ∧ x ≤ 255 := by
 unfold isB at h; simp only [List.all_eq_true, Bool.and_eq_true, decide_eq_true_eq] at h; exact h
end Go.Proofs.Ytcjjmfpkhhdmlaa.G


namespace Go.Proofs.Ytcjjmfpkhhdmlaa.G
open Go.RowKit Go.Proofs.YtcjjmfpkhhdmlaaW.PrintWords Go.Proofs.YtcjjmfpkhhdmlaaW.PrintLast Go.Proofs.YtcjjmfpkhhdmlaaW.PrintMore
attribute [local go_sem] max2_int min2_int max_two min_two max_three min_three max_four min_four   -- for this text's walks alone
def impl_FieldsOk.l0 : Nat → Int → List (S124) → Int → Int → Option (Bool)
 | 0, _, _, _, _ => none
 | k + 1, x3, x6, x7, x8 => if x8 < x7 then (if 0 ≤ x8 then (if x8 < (x6.length : Int) then ((impl_within.f ((rd_T124 x6 x8).f0) 0 16).bind fun t851 => (if t851 = true then (if 0 ≤ ((rd_T124 x6 x8).f0) then ((impl_within.f ((rd_T124 x6 x8).f1) 0 (wrap64 ((shl .i64 1 ((rd_T124 x6 x8).f0)) - 1))).bind fun t852 => (if t852 = true then (impl_FieldsOk.l0 k (wrap64 (x3 + ((rd_T124 x6 x8).f0))) x6 x7 (wrap64 (x8 + 1))) else (some false))) else (none)) else (some false))) else (none)) else (none)) else (some (decide (x3 ≤ 480000)))
def impl_FieldsOk.f (k : Nat) (l0 : List (S124)) : Option (Bool) := impl_FieldsOk.l0 k 0 l0 (l0.length : Int) 0
set_option maxHeartbeats 8000000 in
set_option maxRecDepth 100000 in
theorem impl_FieldsOk.calls (k : Nat) (A0 : Option Addr) (c0 : Nat) (l0 : List (S124)) (r : Bool) (w : World) (hr0 : Kd.C k124 w A0 l0.length l0) (hc0 : l0.length ≤ c0) (h : impl_FieldsOk.f k l0 = some r) :
  Calls Try.prog 156 #[.slice A0 l0.length c0] w fun e w' => e = .returned (.bool r) ∧ Below w.heap.size w w' := by
 have hu124 := Try.underlying124
 have HR0 := Aside0.mk hr0
 have HC0 := Aside0.mk hc0
 clear hr0 hc0
 have HB := Aside0.mk (Below.refl w.heap.size w)
 have H : (impl_FieldsOk.l0 k 0 l0 (l0.length : Int) 0) = some r := h
 clear h
 have H' := Aside0.mk H
 clear H
 go_enter Try.func156, Try.ntmps156
 go_wp2
 repeat (go_quiet (fail); try go_wp2)
 go_loopg [3, 8] k (fun kq v3 v8 w' => ∃ (x3_1 : Int) (x8_1 : Int), v3 = .int .i64 x3_1 ∧ v8 = .int .i64 x8_1 ∧ Aside0 (impl_FieldsOk.l0 kq x3_1 l0 (l0.length : Int) x8_1 = some r) ∧ Aside0 (kq ≤ k) ∧ Aside0 (Below w.heap.size w w'))
 case atStart => exact ⟨(0), (0), (by first | rfl | (simp; done) | (simp [*]; done)), (by first | rfl | (simp; done) | (simp [*]; done)), H', ⟨Nat.le_refl _⟩, ⟨by repeat (first | (with_reducible first | exact HB.out | apply below_alloc | apply pw_below_drewN | apply below_drew1) | exact HB.out)⟩⟩
 case round =>
  clear H'
  try clear c1
  obtain ⟨x3_1, x8_1, rfl, rfl, HA, HK1, HB⟩ := hrel
  cases gk with
  | zero => exact absurd HA.out (by simp [impl_FieldsOk.l0])
  | succ k1 =>
   have H := HA.out
   clear HA
   simp only [impl_FieldsOk.l0] at H
   by_cases c2 : x8_1 < (l0.length : Int)
   ·rw [if_pos c2] at H
    have c2b0 : decide (x8_1 < (l0.length : Int)) = true := decide_eq_true c2
    clear c2
    by_cases c3 : 0 ≤ x8_1
    ·rw [if_pos c3] at H
     have c3b0 : decide (0 ≤ x8_1) = true := decide_eq_true c3
     clear c3
     by_cases c4 : x8_1 < (l0.length : Int)
     ·rw [if_pos c4] at H
      have c4b0 : decide (x8_1 < (l0.length : Int)) = true := decide_eq_true c4
      clear c4
      replace H := Option.bind_eq_some_iff.mp H
      obtain ⟨t851, A50, H⟩ := H
      replace H : (if t851 = true then (if 0 ≤ ((rd_T124 l0 x8_1).f0) then ((impl_within.f ((rd_T124 l0 x8_1).f1) 0 (wrap64 ((shl .i64 1 ((rd_T124 l0 x8_1).f0)) - 1))).bind fun t852 => (if t852 = true then (impl_FieldsOk.l0 k1 (wrap64 (x3_1 + ((rd_T124 l0 x8_1).f0))) l0 (l0.length : Int) (wrap64 (x8_1 + 1))) else (some false))) else (none)) else (some false)) = some r := H
      have A5 := Aside0.mk A50
      clear A50
      by_cases c6 : t851 = true
      ·subst c6
       have H1 : (if 0 ≤ ((rd_T124 l0 x8_1).f0) then ((impl_within.f ((rd_T124 l0 x8_1).f1) 0 (wrap64 ((shl .i64 1 ((rd_T124 l0 x8_1).f0)) - 1))).bind fun t852 => (if t852 = true then (impl_FieldsOk.l0 k1 (wrap64 (x3_1 + ((rd_T124 l0 x8_1).f0))) l0 (l0.length : Int) (wrap64 (x8_1 + 1))) else (some false))) else (none)) = some r := by rw [if_pos rfl] at H; exact H
       clear H
       have H := H1
       clear H1
       by_cases c7 : 0 ≤ ((rd_T124 l0 x8_1).f0)
       ·rw [if_pos c7] at H
        have c7b0 := eq_true c7
        have c7b1 : decide (0 ≤ ((rd_T124 l0 x8_1).f0)) = true := decide_eq_true c7
        clear c7
        obtain ⟨ji8, hji8⟩ : ∃ j_ : Int, (shl .i64 1 ((rd_T124 l0 x8_1).f0)) = j_ := ⟨_, rfl⟩
        replace H : ((impl_within.f ((rd_T124 l0 x8_1).f1) 0 (wrap64 ((ji8) - 1))).bind fun t852 => (if t852 = true then (impl_FieldsOk.l0 k1 (wrap64 (x3_1 + ((rd_T124 l0 x8_1).f0))) l0 (l0.length : Int) (wrap64 (x8_1 + 1))) else (some false))) = some r := by first | (rw [hji8] at H; exact H) | (simp only [hji8] at H ⊢; exact H)
        (try rw [hji8] at A5)
        have hji8_ : (IntKind.i64.wrap (1 * 2 ^ min ((rd_T124 l0 x8_1).f0).toNat 64)) = ji8 := hji8
        have hji8z : ((rd_T124 l0 x8_1).f0) ≤ 64 → (IntKind.i64.wrap (1 * 2 ^ ((rd_T124 l0 x8_1).f0).toNat)) = ji8 := shl_small hji8
        have hji8u : (IntKind.i64.wrap (2 ^ min ((rd_T124 l0 x8_1).f0).toNat 64)) = ji8 := by have h_ := hji8_; rw [Int.one_mul] at h_; exact h_
        have hji8v : ((rd_T124 l0 x8_1).f0) ≤ 64 → (IntKind.i64.wrap (2 ^ ((rd_T124 l0 x8_1).f0).toNat)) = ji8 := fun hle_ => by have h_ := hji8z hle_; rw [Int.one_mul] at h_; exact h_
        have hji8y : (wrap64 (1 * 2 ^ min ((rd_T124 l0 x8_1).f0).toNat 64)) = ji8 := (i64_w _).symm.trans hji8_
        have hji8x : ((rd_T124 l0 x8_1).f0) ≤ 64 → (wrap64 (1 * 2 ^ ((rd_T124 l0 x8_1).f0).toNat)) = ji8 := fun h_ => (i64_w _).symm.trans (hji8z h_)
        replace H := Option.bind_eq_some_iff.mp H
        obtain ⟨t852, A90, H⟩ := H
        replace H : (if t852 = true then (impl_FieldsOk.l0 k1 (wrap64 (x3_1 + ((rd_T124 l0 x8_1).f0))) l0 (l0.length : Int) (wrap64 (x8_1 + 1))) else (some false)) = some r := H
        have A9 := Aside0.mk A90
        clear A90
        by_cases c10 : t852 = true
        ·subst c10
         have H1 : (impl_FieldsOk.l0 k1 (wrap64 (x3_1 + ((rd_T124 l0 x8_1).f0))) l0 (l0.length : Int) (wrap64 (x8_1 + 1))) = some r := by rw [if_pos rfl] at H; exact H
         clear H
         have H := H1
         clear H1
         have H' := Aside0.mk H
         clear H
         have p849 : 0 ≤ (x8_1 : Int) := of_decide_eq_true (by first | (with_reducible assumption) | assumption)
         have q849 : x8_1 < (l0.length : Int) := of_decide_eq_true (by first | (with_reducible assumption) | assumption)
         obtain ⟨ad849, e849, hx849_0, hx849_1⟩ := at_T124 HR0.out x8_1 p849 q849
         cases e849
         replace hx849_0 := (HB.out.cell (World.block_lt_of_cell? w _ hx849_0)).trans hx849_0
         replace hx849_1 := (HB.out.cell (World.block_lt_of_cell? w _ hx849_1)).trans hx849_1
         replace p849 := eq_true p849
         replace q849 := eq_true q849
         go_wp2_with (first | ((with_reducible refine gate_dst (N := 5) rfl ?_); refine box_event ?hg (N := 5) ?hd (cs := #[.int .i64 0, .int .i64 0]) (t := 124) ?hr ?_; (case hd => rfl); (case hg => rfl); (case hr => first | (go_simp; done) | (go_simp; rfl)); intro gb850 hg w11 hbox hb; have n0_ := Aside0.mk (below_step (by repeat (first | (with_reducible first | exact HB.out | apply below_alloc | apply pw_below_drewN | apply below_drew1) | exact HB.out)) hb); have n1_ := Aside0.mk (hbox); have n2_ := Aside0.mk ((by rw [hg]; exact (below_size (by repeat (first | (with_reducible first | exact HB.out | apply below_alloc | apply pw_below_drewN | apply below_drew1) | exact HB.out))) : w.heap.size ≤ gb850)); have n3_ := Aside0.mk ((by rw [hg]; exact (below_size (by repeat (first | (with_reducible first | exact HB.out | apply below_alloc | apply pw_below_drewN | apply below_drew1) | exact HB.out))) : w.heap.size ≤ gb850)); clear HB; have HB := n0_; have BK850 := n1_; have GW850 := n2_; have GE850 := n3_; clear n0_ n1_ n2_ n3_; clear hb hbox hg; have hcz12_0 : w11.cell? ⟨gb850, 0, none⟩ = some (.int .i64 0) := (blk_cell BK850.out 0).trans rfl; have hcz12_1 : w11.cell? ⟨gb850, 1, none⟩ = some (.int .i64 0) := (blk_cell BK850.out 1).trans rfl; have hfz12_0 := blk_frozen BK850.out 0; have hfz12_1 := blk_frozen BK850.out 1) | (go_at_call 81; (with_reducible refine (impl_within.calls ((rd_T124 l0 x8_1).f0) 0 16 true _ A5.out).mono ?_); rintro e w' ⟨rfl, ⟨nd, rfl⟩⟩; (try first | exact ⟨rfl, _, World.drewN_drewN _ _ _⟩ | exact ⟨rfl, _, Eq.trans (World.drewN_drewN _ _ _) (congrArg (World.drewN _) (Nat.add_assoc _ _ _))⟩)) | (go_at_call 81; (with_reducible refine (impl_within.calls ((rd_T124 l0 x8_1).f1) 0 (wrap64 ((ji8) - 1)) true _ A9.out).mono ?_); rintro e w' ⟨rfl, ⟨nd, rfl⟩⟩; (try first | exact ⟨rfl, _, World.drewN_drewN _ _ _⟩ | exact ⟨rfl, _, Eq.trans (World.drewN_drewN _ _ _) (congrArg (World.drewN _) (Nat.add_assoc _ _ _))⟩)))
         repeat (go_quiet (first | ((with_reducible refine gate_dst (N := 5) rfl ?_); refine box_event ?hg (N := 5) ?hd (cs := #[.int .i64 0, .int .i64 0]) (t := 124) ?hr ?_; (case hd => rfl); (case hg => rfl); (case hr => first | (go_simp; done) | (go_simp; rfl)); intro gb850 hg w11 hbox hb; have n0_ := Aside0.mk (below_step (by repeat (first | (with_reducible first | exact HB.out | apply below_alloc | apply pw_below_drewN | apply below_drew1) | exact HB.out)) hb); have n1_ := Aside0.mk (hbox); have n2_ := Aside0.mk ((by rw [hg]; exact (below_size (by repeat (first | (with_reducible first | exact HB.out | apply below_alloc | apply pw_below_drewN | apply below_drew1) | exact HB.out))) : w.heap.size ≤ gb850)); have n3_ := Aside0.mk ((by rw [hg]; exact (below_size (by repeat (first | (with_reducible first | exact HB.out | apply below_alloc | apply pw_below_drewN | apply below_drew1) | exact HB.out))) : w.heap.size ≤ gb850)); clear HB; have HB := n0_; have BK850 := n1_; have GW850 := n2_; have GE850 := n3_; clear n0_ n1_ n2_ n3_; clear hb hbox hg; have hcz12_0 : w11.cell? ⟨gb850, 0, none⟩ = some (.int .i64 0) := (blk_cell BK850.out 0).trans rfl; have hcz12_1 : w11.cell? ⟨gb850, 1, none⟩ = some (.int .i64 0) := (blk_cell BK850.out 1).trans rfl; have hfz12_0 := blk_frozen BK850.out 0; have hfz12_1 := blk_frozen BK850.out 1) | (go_at_call 81; (with_reducible refine (impl_within.calls ((rd_T124 l0 x8_1).f0) 0 16 true _ A5.out).mono ?_); rintro e w' ⟨rfl, ⟨nd, rfl⟩⟩; (try first | exact ⟨rfl, _, World.drewN_drewN _ _ _⟩ | exact ⟨rfl, _, Eq.trans (World.drewN_drewN _ _ _) (congrArg (World.drewN _) (Nat.add_assoc _ _ _))⟩)) | (go_at_call 81; (with_reducible refine (impl_within.calls ((rd_T124 l0 x8_1).f1) 0 (wrap64 ((ji8) - 1)) true _ A9.out).mono ?_); rintro e w' ⟨rfl, ⟨nd, rfl⟩⟩; (try first | exact ⟨rfl, _, World.drewN_drewN _ _ _⟩ | exact ⟨rfl, _, Eq.trans (World.drewN_drewN _ _ _) (congrArg (World.drewN _) (Nat.add_assoc _ _ _))⟩))); try go_wp2_with (first | ((with_reducible refine gate_dst (N := 5) rfl ?_); refine box_event ?hg (N := 5) ?hd (cs := #[.int .i64 0, .int .i64 0]) (t := 124) ?hr ?_; (case hd => rfl); (case hg => rfl); (case hr => first | (go_simp; done) | (go_simp; rfl)); intro gb850 hg w11 hbox hb; have n0_ := Aside0.mk (below_step (by repeat (first | (with_reducible first | exact HB.out | apply below_alloc | apply pw_below_drewN | apply below_drew1) | exact HB.out)) hb); have n1_ := Aside0.mk (hbox); have n2_ := Aside0.mk ((by rw [hg]; exact (below_size (by repeat (first | (with_reducible first | exact HB.out | apply below_alloc | apply pw_below_drewN | apply below_drew1) | exact HB.out))) : w.heap.size ≤ gb850)); have n3_ := Aside0.mk ((by rw [hg]; exact (below_size (by repeat (first | (with_reducible first | exact HB.out | apply below_alloc | apply pw_below_drewN | apply below_drew1) | exact HB.out))) : w.heap.size ≤ gb850)); clear HB; have HB := n0_; have BK850 := n1_; have GW850 := n2_; have GE850 := n3_; clear n0_ n1_ n2_ n3_; clear hb hbox hg; have hcz12_0 : w11.cell? ⟨gb850, 0, none⟩ = some (.int .i64 0) := (blk_cell BK850.out 0).trans rfl; have hcz12_1 : w11.cell? ⟨gb850, 1, none⟩ = some (.int .i64 0) := (blk_cell BK850.out 1).trans rfl; have hfz12_0 := blk_frozen BK850.out 0; have hfz12_1 := blk_frozen BK850.out 1) | (go_at_call 81; (with_reducible refine (impl_within.calls ((rd_T124 l0 x8_1).f0) 0 16 true _ A5.out).mono ?_); rintro e w' ⟨rfl, ⟨nd, rfl⟩⟩; (try first | exact ⟨rfl, _, World.drewN_drewN _ _ _⟩ | exact ⟨rfl, _, Eq.trans (World.drewN_drewN _ _ _) (congrArg (World.drewN _) (Nat.add_assoc _ _ _))⟩)) | (go_at_call 81; (with_reducible refine (impl_within.calls ((rd_T124 l0 x8_1).f1) 0 (wrap64 ((ji8) - 1)) true _ A9.out).mono ?_); rintro e w' ⟨rfl, ⟨nd, rfl⟩⟩; (try first | exact ⟨rfl, _, World.drewN_drewN _ _ _⟩ | exact ⟨rfl, _, Eq.trans (World.drewN_drewN _ _ _) (congrArg (World.drewN _) (Nat.add_assoc _ _ _))⟩))))
         go_roundg k1
         case measure => have := HK1.out; omega
         case rel => exact ⟨(wrap64 (x3_1 + ((rd_T124 l0 x8_1).f0))), (wrap64 (x8_1 + 1)), (by first | rfl | (simp; done) | (simp [*]; done)), (by first | rfl | (simp; done) | (simp [*]; done)), H', ⟨by have := HK1.out; omega⟩, ⟨by repeat (first | (with_reducible first | exact HB.out | apply below_alloc | apply pw_below_drewN | apply below_drew1 | refine below_set ?_ GE850.out) | exact HB.out)⟩⟩
        ·replace c10 := Bool.eq_false_iff.mpr c10
         subst c10
         have H1 : (some false) = some r := by rw [if_neg (show ¬ (false = true) by decide)] at H; exact H
         clear H
         have H := H1
         clear H1
         obtain rfl := Option.some.inj H
         have p849 : 0 ≤ (x8_1 : Int) := of_decide_eq_true (by first | (with_reducible assumption) | assumption)
         have q849 : x8_1 < (l0.length : Int) := of_decide_eq_true (by first | (with_reducible assumption) | assumption)
         obtain ⟨ad849, e849, hx849_0, hx849_1⟩ := at_T124 HR0.out x8_1 p849 q849
         cases e849
         replace hx849_0 := (HB.out.cell (World.block_lt_of_cell? w _ hx849_0)).trans hx849_0
         replace hx849_1 := (HB.out.cell (World.block_lt_of_cell? w _ hx849_1)).trans hx849_1
         replace p849 := eq_true p849
         replace q849 := eq_true q849
         go_wp2_with (first | ((with_reducible refine gate_dst (N := 5) rfl ?_); refine box_event ?hg (N := 5) ?hd (cs := #[.int .i64 0, .int .i64 0]) (t := 124) ?hr ?_; (case hd => rfl); (case hg => rfl); (case hr => first | (go_simp; done) | (go_simp; rfl)); intro gb850 hg w13 hbox hb; have n0_ := Aside0.mk (below_step (by repeat (first | (with_reducible first | exact HB.out | apply below_alloc | apply pw_below_drewN | apply below_drew1) | exact HB.out)) hb); have n1_ := Aside0.mk (hbox); have n2_ := Aside0.mk ((by rw [hg]; exact (below_size (by repeat (first | (with_reducible first | exact HB.out | apply below_alloc | apply pw_below_drewN | apply below_drew1) | exact HB.out))) : w.heap.size ≤ gb850)); have n3_ := Aside0.mk ((by rw [hg]; exact (below_size (by repeat (first | (with_reducible first | exact HB.out | apply below_alloc | apply pw_below_drewN | apply below_drew1) | exact HB.out))) : w.heap.size ≤ gb850)); clear HB; have HB := n0_; have BK850 := n1_; have GW850 := n2_; have GE850 := n3_; clear n0_ n1_ n2_ n3_; clear hb hbox hg; have hcz14_0 : w13.cell? ⟨gb850, 0, none⟩ = some (.int .i64 0) := (blk_cell BK850.out 0).trans rfl; have hcz14_1 : w13.cell? ⟨gb850, 1, none⟩ = some (.int .i64 0) := (blk_cell BK850.out 1).trans rfl; have hfz14_0 := blk_frozen BK850.out 0; have hfz14_1 := blk_frozen BK850.out 1) | (go_at_call 81; (with_reducible refine (impl_within.calls ((rd_T124 l0 x8_1).f0) 0 16 true _ A5.out).mono ?_); rintro e w' ⟨rfl, ⟨nd, rfl⟩⟩; (try first | exact ⟨rfl, _, World.drewN_drewN _ _ _⟩ | exact ⟨rfl, _, Eq.trans (World.drewN_drewN _ _ _) (congrArg (World.drewN _) (Nat.add_assoc _ _ _))⟩)) | (go_at_call 81; (with_reducible refine (impl_within.calls ((rd_T124 l0 x8_1).f1) 0 (wrap64 ((ji8) - 1)) false _ A9.out).mono ?_); rintro e w' ⟨rfl, ⟨nd, rfl⟩⟩; (try first | exact ⟨rfl, _, World.drewN_drewN _ _ _⟩ | exact ⟨rfl, _, Eq.trans (World.drewN_drewN _ _ _) (congrArg (World.drewN _) (Nat.add_assoc _ _ _))⟩)))
         repeat (go_quiet (first | ((with_reducible refine gate_dst (N := 5) rfl ?_); refine box_event ?hg (N := 5) ?hd (cs := #[.int .i64 0, .int .i64 0]) (t := 124) ?hr ?_; (case hd => rfl); (case hg => rfl); (case hr => first | (go_simp; done) | (go_simp; rfl)); intro gb850 hg w13 hbox hb; have n0_ := Aside0.mk (below_step (by repeat (first | (with_reducible first | exact HB.out | apply below_alloc | apply pw_below_drewN | apply below_drew1) | exact HB.out)) hb); have n1_ := Aside0.mk (hbox); have n2_ := Aside0.mk ((by rw [hg]; exact (below_size (by repeat (first | (with_reducible first | exact HB.out | apply below_alloc | apply pw_below_drewN | apply below_drew1) | exact HB.out))) : w.heap.size ≤ gb850)); have n3_ := Aside0.mk ((by rw [hg]; exact (below_size (by repeat (first | (with_reducible first | exact HB.out | apply below_alloc | apply pw_below_drewN | apply below_drew1) | exact HB.out))) : w.heap.size ≤ gb850)); clear HB; have HB := n0_; have BK850 := n1_; have GW850 := n2_; have GE850 := n3_; clear n0_ n1_ n2_ n3_; clear hb hbox hg; have hcz14_0 : w13.cell? ⟨gb850, 0, none⟩ = some (.int .i64 0) := (blk_cell BK850.out 0).trans rfl; have hcz14_1 : w13.cell? ⟨gb850, 1, none⟩ = some (.int .i64 0) := (blk_cell BK850.out 1).trans rfl; have hfz14_0 := blk_frozen BK850.out 0; have hfz14_1 := blk_frozen BK850.out 1) | (go_at_call 81; (with_reducible refine (impl_within.calls ((rd_T124 l0 x8_1).f0) 0 16 true _ A5.out).mono ?_); rintro e w' ⟨rfl, ⟨nd, rfl⟩⟩; (try first | exact ⟨rfl, _, World.drewN_drewN _ _ _⟩ | exact ⟨rfl, _, Eq.trans (World.drewN_drewN _ _ _) (congrArg (World.drewN _) (Nat.add_assoc _ _ _))⟩)) | (go_at_call 81; (with_reducible refine (impl_within.calls ((rd_T124 l0 x8_1).f1) 0 (wrap64 ((ji8) - 1)) false _ A9.out).mono ?_); rintro e w' ⟨rfl, ⟨nd, rfl⟩⟩; (try first | exact ⟨rfl, _, World.drewN_drewN _ _ _⟩ | exact ⟨rfl, _, Eq.trans (World.drewN_drewN _ _ _) (congrArg (World.drewN _) (Nat.add_assoc _ _ _))⟩))); try go_wp2_with (first | ((with_reducible refine gate_dst (N := 5) rfl ?_); refine box_event ?hg (N := 5) ?hd (cs := #[.int .i64 0, .int .i64 0]) (t := 124) ?hr ?_; (case hd => rfl); (case hg => rfl); (case hr => first | (go_simp; done) | (go_simp; rfl)); intro gb850 hg w13 hbox hb; have n0_ := Aside0.mk (below_step (by repeat (first | (with_reducible first | exact HB.out | apply below_alloc | apply pw_below_drewN | apply below_drew1) | exact HB.out)) hb); have n1_ := Aside0.mk (hbox); have n2_ := Aside0.mk ((by rw [hg]; exact (below_size (by repeat (first | (with_reducible first | exact HB.out | apply below_alloc | apply pw_below_drewN | apply below_drew1) | exact HB.out))) : w.heap.size ≤ gb850)); have n3_ := Aside0.mk ((by rw [hg]; exact (below_size (by repeat (first | (with_reducible first | exact HB.out | apply below_alloc | apply pw_below_drewN | apply below_drew1) | exact HB.out))) : w.heap.size ≤ gb850)); clear HB; have HB := n0_; have BK850 := n1_; have GW850 := n2_; have GE850 := n3_; clear n0_ n1_ n2_ n3_; clear hb hbox hg; have hcz14_0 : w13.cell? ⟨gb850, 0, none⟩ = some (.int .i64 0) := (blk_cell BK850.out 0).trans rfl; have hcz14_1 : w13.cell? ⟨gb850, 1, none⟩ = some (.int .i64 0) := (blk_cell BK850.out 1).trans rfl; have hfz14_0 := blk_frozen BK850.out 0; have hfz14_1 := blk_frozen BK850.out 1) | (go_at_call 81; (with_reducible refine (impl_within.calls ((rd_T124 l0 x8_1).f0) 0 16 true _ A5.out).mono ?_); rintro e w' ⟨rfl, ⟨nd, rfl⟩⟩; (try first | exact ⟨rfl, _, World.drewN_drewN _ _ _⟩ | exact ⟨rfl, _, Eq.trans (World.drewN_drewN _ _ _) (congrArg (World.drewN _) (Nat.add_assoc _ _ _))⟩)) | (go_at_call 81; (with_reducible refine (impl_within.calls ((rd_T124 l0 x8_1).f1) 0 (wrap64 ((ji8) - 1)) false _ A9.out).mono ?_); rintro e w' ⟨rfl, ⟨nd, rfl⟩⟩; (try first | exact ⟨rfl, _, World.drewN_drewN _ _ _⟩ | exact ⟨rfl, _, Eq.trans (World.drewN_drewN _ _ _) (congrArg (World.drewN _) (Nat.add_assoc _ _ _))⟩))))
         go_ret
         exact ⟨by first | rfl | (simp [errW_none, errW_some] <;> rfl) | (simp only [← hji8]; first | rfl | (simp [errW_none, errW_some] <;> rfl)) | (simp [*, errW_none, errW_some] <;> rfl), by repeat (first | (with_reducible first | exact HB.out | apply below_alloc | apply pw_below_drewN | apply below_drew1 | refine below_set ?_ GE850.out) | exact HB.out)⟩
       ·rw [if_neg c7] at H
        exact absurd H (by simp)
      ·replace c6 := Bool.eq_false_iff.mpr c6
       subst c6
       have H1 : (some false) = some r := by rw [if_neg (show ¬ (false = true) by decide)] at H; exact H
       clear H
       have H := H1
       clear H1
       obtain rfl := Option.some.inj H
       have p849 : 0 ≤ (x8_1 : Int) := of_decide_eq_true (by first | (with_reducible assumption) | assumption)
       have q849 : x8_1 < (l0.length : Int) := of_decide_eq_true (by first | (with_reducible assumption) | assumption)
       obtain ⟨ad849, e849, hx849_0, hx849_1⟩ := at_T124 HR0.out x8_1 p849 q849
       cases e849
       replace hx849_0 := (HB.out.cell (World.block_lt_of_cell? w _ hx849_0)).trans hx849_0
       replace hx849_1 := (HB.out.cell (World.block_lt_of_cell? w _ hx849_1)).trans hx849_1
       replace p849 := eq_true p849
       replace q849 := eq_true q849
       go_wp2_with (first | ((with_reducible refine gate_dst (N := 5) rfl ?_); refine box_event ?hg (N := 5) ?hd (cs := #[.int .i64 0, .int .i64 0]) (t := 124) ?hr ?_; (case hd => rfl); (case hg => rfl); (case hr => first | (go_simp; done) | (go_simp; rfl)); intro gb850 hg w15 hbox hb; have n0_ := Aside0.mk (below_step (by repeat (first | (with_reducible first | exact HB.out | apply below_alloc | apply pw_below_drewN | apply below_drew1) | exact HB.out)) hb); have n1_ := Aside0.mk (hbox); have n2_ := Aside0.mk ((by rw [hg]; exact (below_size (by repeat (first | (with_reducible first | exact HB.out | apply below_alloc | apply pw_below_drewN | apply below_drew1) | exact HB.out))) : w.heap.size ≤ gb850)); have n3_ := Aside0.mk ((by rw [hg]; exact (below_size (by repeat (first | (with_reducible first | exact HB.out | apply below_alloc | apply pw_below_drewN | apply below_drew1) | exact HB.out))) : w.heap.size ≤ gb850)); clear HB; have HB := n0_; have BK850 := n1_; have GW850 := n2_; have GE850 := n3_; clear n0_ n1_ n2_ n3_; clear hb hbox hg; have hcz16_0 : w15.cell? ⟨gb850, 0, none⟩ = some (.int .i64 0) := (blk_cell BK850.out 0).trans rfl; have hcz16_1 : w15.cell? ⟨gb850, 1, none⟩ = some (.int .i64 0) := (blk_cell BK850.out 1).trans rfl; have hfz16_0 := blk_frozen BK850.out 0; have hfz16_1 := blk_frozen BK850.out 1) | (go_at_call 81; (with_reducible refine (impl_within.calls ((rd_T124 l0 x8_1).f0) 0 16 false _ A5.out).mono ?_); rintro e w' ⟨rfl, ⟨nd, rfl⟩⟩; (try first | exact ⟨rfl, _, World.drewN_drewN _ _ _⟩ | exact ⟨rfl, _, Eq.trans (World.drewN_drewN _ _ _) (congrArg (World.drewN _) (Nat.add_assoc _ _ _))⟩)))
       repeat (go_quiet (first | ((with_reducible refine gate_dst (N := 5) rfl ?_); refine box_event ?hg (N := 5) ?hd (cs := #[.int .i64 0, .int .i64 0]) (t := 124) ?hr ?_; (case hd => rfl); (case hg => rfl); (case hr => first | (go_simp; done) | (go_simp; rfl)); intro gb850 hg w15 hbox hb; have n0_ := Aside0.mk (below_step (by repeat (first | (with_reducible first | exact HB.out | apply below_alloc | apply pw_below_drewN | apply below_drew1) | exact HB.out)) hb); have n1_ := Aside0.mk (hbox); have n2_ := Aside0.mk ((by rw [hg]; exact (below_size (by repeat (first | (with_reducible first | exact HB.out | apply below_alloc | apply pw_below_drewN | apply below_drew1) | exact HB.out))) : w.heap.size ≤ gb850)); have n3_ := Aside0.mk ((by rw [hg]; exact (below_size (by repeat (first | (with_reducible first | exact HB.out | apply below_alloc | apply pw_below_drewN | apply below_drew1) | exact HB.out))) : w.heap.size ≤ gb850)); clear HB; have HB := n0_; have BK850 := n1_; have GW850 := n2_; have GE850 := n3_; clear n0_ n1_ n2_ n3_; clear hb hbox hg; have hcz16_0 : w15.cell? ⟨gb850, 0, none⟩ = some (.int .i64 0) := (blk_cell BK850.out 0).trans rfl; have hcz16_1 : w15.cell? ⟨gb850, 1, none⟩ = some (.int .i64 0) := (blk_cell BK850.out 1).trans rfl; have hfz16_0 := blk_frozen BK850.out 0; have hfz16_1 := blk_frozen BK850.out 1) | (go_at_call 81; (with_reducible refine (impl_within.calls ((rd_T124 l0 x8_1).f0) 0 16 false _ A5.out).mono ?_); rintro e w' ⟨rfl, ⟨nd, rfl⟩⟩; (try first | exact ⟨rfl, _, World.drewN_drewN _ _ _⟩ | exact ⟨rfl, _, Eq.trans (World.drewN_drewN _ _ _) (congrArg (World.drewN _) (Nat.add_assoc _ _ _))⟩))); try go_wp2_with (first | ((with_reducible refine gate_dst (N := 5) rfl ?_); refine box_event ?hg (N := 5) ?hd (cs := #[.int .i64 0, .int .i64 0]) (t := 124) ?hr ?_; (case hd => rfl); (case hg => rfl); (case hr => first | (go_simp; done) | (go_simp; rfl)); intro gb850 hg w15 hbox hb; have n0_ := Aside0.mk (below_step (by repeat (first | (with_reducible first | exact HB.out | apply below_alloc | apply pw_below_drewN | apply below_drew1) | exact HB.out)) hb); have n1_ := Aside0.mk (hbox); have n2_ := Aside0.mk ((by rw [hg]; exact (below_size (by repeat (first | (with_reducible first | exact HB.out | apply below_alloc | apply pw_below_drewN | apply below_drew1) | exact HB.out))) : w.heap.size ≤ gb850)); have n3_ := Aside0.mk ((by rw [hg]; exact (below_size (by repeat (first | (with_reducible first | exact HB.out | apply below_alloc | apply pw_below_drewN | apply below_drew1) | exact HB.out))) : w.heap.size ≤ gb850)); clear HB; have HB := n0_; have BK850 := n1_; have GW850 := n2_; have GE850 := n3_; clear n0_ n1_ n2_ n3_; clear hb hbox hg; have hcz16_0 : w15.cell? ⟨gb850, 0, none⟩ = some (.int .i64 0) := (blk_cell BK850.out 0).trans rfl; have hcz16_1 : w15.cell? ⟨gb850, 1, none⟩ = some (.int .i64 0) := (blk_cell BK850.out 1).trans rfl; have hfz16_0 := blk_frozen BK850.out 0; have hfz16_1 := blk_frozen BK850.out 1) | (go_at_call 81; (with_reducible refine (impl_within.calls ((rd_T124 l0 x8_1).f0) 0 16 false _ A5.out).mono ?_); rintro e w' ⟨rfl, ⟨nd, rfl⟩⟩; (try first | exact ⟨rfl, _, World.drewN_drewN _ _ _⟩ | exact ⟨rfl, _, Eq.trans (World.drewN_drewN _ _ _) (congrArg (World.drewN _) (Nat.add_assoc _ _ _))⟩))))
       go_ret
       exact ⟨by first | rfl | (simp [errW_none, errW_some] <;> rfl) | (simp [*, errW_none, errW_some] <;> rfl), by repeat (first | (with_reducible first | exact HB.out | apply below_alloc | apply pw_below_drewN | apply below_drew1 | refine below_set ?_ GE850.out) | exact HB.out)⟩
     ·rw [if_neg c4] at H
      exact absurd H (by simp)
    ·rw [if_neg c3] at H
     exact absurd H (by simp)
   ·rw [if_neg c2] at H
    have c2b0 : decide (x8_1 < (l0.length : Int)) = false := decide_eq_false c2
    clear c2
    obtain rfl := Option.some.inj H
    go_wp2
    repeat (go_quiet (fail); try go_wp2)
    go_ret
    exact ⟨by first | rfl | (simp [errW_none, errW_some] <;> rfl) | (simp [*, errW_none, errW_some] <;> rfl), by repeat (first | (with_reducible first | exact HB.out | apply below_alloc | apply pw_below_drewN | apply below_drew1) | exact HB.out)⟩
/-- a field is right -/
def fOk (x : S124) : Bool := (decide (0 ≤ x.f0) && decide (x.f0 ≤ 16)) && (decide (0 ≤ x.f1) && decide (x.f1 ≤ 2 ^ x.f0.toNat - 1))
def sumF : List S124 → Int
 | [] => 0
 | x :: l => x.f0 + sumF l
/-- fields are right -/
def fldOk (l : List S124) : Bool := l.all fOk && decide (sumF l ≤ 480000)
theorem sumF_nn (l : List S124) (h : l.all fOk = true) : 0 ≤ sumF l := by
 induction l with
 | nil => exact Int.le_refl _
 | cons x l ih =>
  rw [List.all_cons, Bool.and_eq_true] at h
  have h1 := h.1
  simp only [fOk, Bool.and_eq_true, decide_eq_true_eq] at h1
  have := ih h.2
  simp only [sumF]
  omega
theorem rdF_nat (l : List S124) (i : Nat) (h : i < l.length) : rd_T124 l (i : Int) = l[i] := by simp [rd_T124, h]
theorem pow_16 (n : Int) (h0 : 0 ≤ n) (h1 : n ≤ 16) : (1 : Int) ≤ 2 ^ n.toNat ∧ (2 : Int) ^ n.toNat ≤ 65536 := by
 have h2 : n.toNat ≤ 16 := by omega
 exact ⟨pow_one _, pow_cast _ 65536 (Nat.pow_le_pow_right (n := 2) (by decide) h2)⟩
theorem shl_16 (n : Int) (h0 : 0 ≤ n) (h1 : n ≤ 16) : shl .i64 1 n = 2 ^ n.toNat := by
 have h3 := pow_16 n h0 h1
 unfold shl
 rw [Nat.min_eq_left (by show n.toNat ≤ 64; omega), Int.one_mul, IntKind.wrap_i64]
 omega
theorem shl_mask16 (n : Int) (h0 : 0 ≤ n) (h1 : n ≤ 16) : wrap64 (shl .i64 1 n - 1) = 2 ^ n.toNat - 1 := by
 have h3 := pow_16 n h0 h1
 rw [shl_16 n h0 h1]
 exact wrap_in _ (by omega) (by omega)
theorem impl_FieldsOk.l0_ev (l : List S124) (hl : l.length ≤ 1048576) : ∀ (d i : Nat) (x : Int), l.length - i = d → i ≤ l.length → 0 ≤ x → x ≤ 16 * i → Ev (fun k => impl_FieldsOk.l0 k x l (l.length : Int) (i : Int)) ((l.drop i).all fOk && decide (x + sumF (l.drop i) ≤ 480000)) := by
 intro d
 induction d with
 | zero =>
  intro i x hd hi h0 h1
  obtain rfl : i = l.length := by omega
  refine Ev.step (fun _ => by rw [impl_FieldsOk.l0]) (Ev.ng (by omega) (Ev.eq (Ev.now _) ?_))
  rw [List.drop_length]; simp [sumF]
 | succ d ih =>
  intro i x hd hi h0 h1
  have h : i < l.length := by omega
  rw [List.drop_eq_getElem_cons h]
  refine Ev.step (fun _ => by rw [impl_FieldsOk.l0]) (Ev.ip (by omega) (Ev.ip (by omega) (Ev.ip (by omega) ?_)))
  rw [rdF_nat l i h]
  refine Ev.bind (Ev.c (impl_within.val _ _ _)) ?_
  by_cases ha : (decide (0 ≤ l[i].f0) && decide (l[i].f0 ≤ 16)) = true
  ·have ha' : 0 ≤ l[i].f0 ∧ l[i].f0 ≤ 16 := by simpa using ha
   refine Ev.ip ha (Ev.ip ha'.1 ?_)
   rw [shl_mask16 l[i].f0 ha'.1 ha'.2]
   refine Ev.bind (Ev.c (impl_within.val _ _ _)) ?_
   by_cases hb : (decide (0 ≤ l[i].f1) && decide (l[i].f1 ≤ 2 ^ l[i].f0.toNat - 1)) = true
   ·refine Ev.ip hb ?_
    rw [wrap_in (x + l[i].f0) (by omega) (by omega), wrap_succ i (by omega)]
    refine Ev.eq (ih (i + 1) (x + l[i].f0) (by omega) (by omega) (by omega) (by omega)) ?_
    have hf : fOk l[i] = true := by unfold fOk; rw [ha, hb]; rfl
    rw [List.all_cons, hf, sumF, Int.add_assoc, Bool.true_and]
   ·refine Ev.ng hb (Ev.eq (Ev.now _) ?_)
    have hf : fOk l[i] = false := by unfold fOk; rw [Bool.eq_false_iff.2 hb, Bool.and_false]
    rw [List.all_cons, hf]; rfl
  ·refine Ev.ng ha (Ev.eq (Ev.now _) ?_)
   have hf : fOk l[i] = false := by unfold fOk; rw [Bool.eq_false_iff.2 ha]; rfl
   rw [List.all_cons, hf]; rfl
theorem impl_FieldsOk.ev (l : List S124) (h : l.length ≤ 1048576) : Ev (fun k => impl_FieldsOk.f k l) (fldOk l) := by
 have := impl_FieldsOk.l0_ev l h l.length 0 0 (by omega) (by omega) (by omega) (by omega)
 rw [List.drop_zero, Int.zero_add] at this
 exact this
end Go.Proofs.Ytcjjmfpkhhdmlaa.G


namespace Go.Proofs.Ytcjjmfpkhhdmlaa.G
open Go.RowKit Go.Proofs.YtcjjmfpkhhdmlaaW.PrintWords Go.Proofs.YtcjjmfpkhhdmlaaW.PrintLast Go.Proofs.YtcjjmfpkhhdmlaaW.PrintMore
attribute [local go_sem] max2_int min2_int max_two min_two max_three min_three max_four min_four   -- for this text's walks alone
--import Derived.BigRegion
--import Derived.Deep.RegionLaw
/-- whole bytes go out -/
def flushM : Nat → List Int → Int → Int → List Int × Int × Int
 | 0, out, q, m => (out, q, m)
 | d + 1, out, q, m => if m ≥ 8 then flushM d (out ++ [q / 2 ^ (m - 8).toNat]) (q % 2 ^ (m - 8).toNat) (m - 8) else (out, q, m)
/-- the three variables that the closure has: the bits, how many, the bytes -/
def PK (w0 W : World) (gb gm go : Nat) (out : List Int) (q m : Int) : Prop :=
 W.heap[gb]? = some (.cells #[.int .i64 q] 3 (0, 0)) ∧ W.heap[gm]? = some (.cells #[.int .i64 m] 3 (0, 0)) ∧ gb ≠ gm ∧ w0.heap.size ≤ gb ∧ w0.heap.size ≤ gm ∧ w0.heap.size ≤ go ∧
 ∃ v, W.heap[go]? = some (.cells #[v] 23 (0, 0)) ∧ Kd.R (Kd.int .u8) 5 W w0.heap.size (fun _ => True) v out
def PutRel (w0 : World) (gb gm go : Nat) (R : List Int × Int × Int) (kq : Nat) (w' : World) : Prop :=
 ∃ (out : List Int) (q m : Int), Aside0 (PK w0 w' gb gm go out q m) ∧ Aside0 (Below w0.heap.size w0 w') ∧ Aside0 (flushM kq out q m = R) ∧ Aside0 (q < 2 ^ m.toNat) ∧ Aside0 (out.length + kq ≤ 281474976) ∧ 0 ≤ q ∧ 0 ≤ m ∧ m < 8 * (kq + 1) ∧ m ≤ 23
set_option maxRecDepth 100000 in
set_option maxHeartbeats 4000000 in
theorem put_calls (w0 w : World) (gb gm go : Nat) (out : List Int) (q m n v : Int) (hB : Below w0.heap.size w0 w) (h : PK w0 w gb gm go out q m) (h0 : 0 ≤ q) (h1 : q < 2 ^ m.toNat) (h2 : 0 ≤ m) (h3 : m ≤ 7) (h4 : 0 ≤ n) (h5 : n ≤ 16) (h6 : 0 ≤ v) (h7 : v < 2 ^ n.toNat) (h8 : out.length ≤ 281474970) :
  Calls Try.prog 157 #[.int .i64 n, .int .i64 v, .pointer (some ⟨gb, 0, none⟩), .pointer (some ⟨gm, 0, none⟩), .pointer (some ⟨go, 0, none⟩)] w fun e w' => e = .returned (.tuple #[]) ∧
   (∃ r, r = flushM 2 out (q * 2 ^ n.toNat + v) (m + n) ∧ PK w0 w' gb gm go r.1 r.2.1 r.2.2) ∧ Below w0.heap.size w0 w' := by
 have HB := Aside0.mk hB
 have HPK := Aside0.mk h
 have HQ := Aside0.mk h1
 have HV := Aside0.mk h7
 obtain ⟨k1, k2, hne, g1, g2, g3, vo, k3, hR⟩ := h
 have c1 := blk_cell k1 0
 have c2 := blk_cell k2 0
 have c3 := blk_cell k3 0
 simp at c1 c2 c3
 have f1 := blk_frozen k1 0
 have f2 := blk_frozen k2 0
 have f3 := blk_frozen k3 0
 have NE1 := Aside0.mk (Ne.symm (blk_ne k2 k3 (by decide)))
 have NE2 := Aside0.mk (Ne.symm (blk_ne k1 k3 (by decide)))
 clear k1 k2 k3 hR hB h1 h7
 go_enter Try.func157, Try.ntmps157
 go_wp2
 go_region
 go_wp2
 clear c1 c2 c3 f1 f2 f3 vo
 go_loopg [] 2 (fun kq w' => PutRel w0 gb gm go (flushM 2 out (q * 2 ^ n.toNat + v) (m + n)) kq w')
 case atStart =>
  have hv := pow_bits n h4 (by omega)
  have hm := pow_bits m h2 (by omega)
  have hpn : (2 : Int) ^ n.toNat ≤ 65536 := by
   have h1 : n.toNat ≤ 16 := by omega
   exact pow_cast _ 65536 (Nat.pow_le_pow_right (n := 2) (by decide) h1)
  have hpm : (2 : Int) ^ m.toNat ≤ 128 := by
   have h1 : m.toNat ≤ 7 := by omega
   exact pow_cast _ 128 (Nat.pow_le_pow_right (n := 2) (by decide) h1)
  have hp1 := pow_one n.toNat
  have hq1 := HQ.out
  have hv1 := HV.out
  have hqb : q * 2 ^ n.toNat ≤ 127 * 65536 := Int.mul_le_mul (by omega) hpn (by omega) (by omega)
  have hqb0 : 0 ≤ q * 2 ^ n.toNat := Int.mul_nonneg h0 (by omega)
  have hor : Go.bits .or .i64 (wrap64 (q * 2 ^ n.toNat)) v = q * 2 ^ n.toNat + v := by
   rw [wrap_in _ (by omega) (by omega)]
   exact bits_join .i64 62 (by decide) (fun n h0 h1 => by rw [IntKind.wrap_i64]; omega) n.toNat _ v hqb0 (Int.mul_emod_left _ _) (by omega) h6 hv1 (by omega)
  rw [hor]
  obtain ⟨k1, k2, _, _, _, _, vo, k3, hR⟩ := HPK.out
  refine ⟨out, q * 2 ^ n.toNat + v, m + n, ⟨?_⟩, ⟨below_drew (below_set (below_set HB.out g1) g2)⟩, ⟨rfl⟩, ⟨?_⟩, ⟨by omega⟩, by omega, by omega, by omega, by omega⟩
  ·refine ⟨blk_far (blk_set k1 0 _) hne _, blk_set (blk_far k2 hne.symm _) 0 _, hne, g1, g2, g3, vo, blk_far (blk_far k3 NE2.out _) NE1.out _, ?_⟩
   exact Kd.R_drew (Kd.R_mono (Kd.R_far (p := ⟨gm, 0, none⟩) (Kd.R_far (p := ⟨gb, 0, none⟩) (Kd.R_types (Kd.R_types hR k1 (by decide)) k2 (by decide)) (fun k hk => hk.1.2) _) (fun k hk => hk.2) _) (fun _ _ => trivial))
  ·have e : (m + n).toNat = m.toNat + n.toNat := by omega
   rw [e, Int.pow_add]
   have : (q + 1) * 2 ^ n.toNat ≤ 2 ^ m.toNat * 2 ^ n.toNat := Int.mul_le_mul_of_nonneg_right (by omega) (by omega)
   rw [Int.add_mul, Int.one_mul] at this
   omega
 case round =>
  obtain ⟨out', q', m', HPK', HB', HF, HQ', HL, p0, p1, p2, p3⟩ := hrel
  obtain ⟨k1, k2, _, _, _, _, vo, k3, hR⟩ := HPK'.out
  have c1 := blk_cell k1 0
  have c2 := blk_cell k2 0
  have c3 := blk_cell k3 0
  simp at c1 c2 c3
  have f1 := blk_frozen k1 0
  have f2 := blk_frozen k2 0
  have f3 := blk_frozen k3 0
  have K1 := Aside0.mk k1
  have K2 := Aside0.mk k2
  have K3 := Aside0.mk k3
  have HR := Aside0.mk hR
  clear k1 k2 k3 hR
  by_cases h8 : m' ≥ 8
  ·go_wp2
   generalize hW : wr.setCell ⟨gm, 0, none⟩ (.int .i64 (m' - 8)) = W2
   have j1 : W2.heap[gb]? = some (.cells #[.int .i64 q'] 3 (0, 0)) := by rw [← hW]; exact blk_far K1.out hne _
   have j2 : W2.heap[gm]? = some (.cells #[.int .i64 (m' - 8)] 3 (0, 0)) := by rw [← hW]; exact blk_set K2.out 0 _
   have j3 : W2.heap[go]? = some (.cells #[vo] 23 (0, 0)) := by rw [← hW]; exact blk_far K3.out NE1.out _
   have HR2 := Aside0.mk (show Kd.R (Kd.int .u8) 5 W2 w0.heap.size (fun _ => True) vo out' by
    rw [← hW]
    exact Kd.R_mono (Kd.R_far (p := ⟨gm, 0, none⟩) (Kd.R_types HR.out K2.out (by decide)) (fun k hk => hk.2) _) (fun _ _ => trivial))
   have HB2 := Aside0.mk (show Below w0.heap.size w0 W2 by rw [← hW]; exact below_set HB'.out g2)
   clear hW
   have c1 := blk_cell j1 0
   have c2 := blk_cell j2 0
   have c3 := blk_cell j3 0
   simp at c1 c2 c3
   have f1 := blk_frozen j1 0
   have f2 := blk_frozen j2 0
   have f3 := blk_frozen j3 0
   have c3a : ∀ o : Obj, (W2.alloc o).cell? ⟨go, 0, none⟩ = some vo := fun o => (World.cell?_alloc_lt _ _ _ (blk_lt j3)).trans c3
   have J1 := Aside0.mk j1
   have J2 := Aside0.mk j2
   have J3 := Aside0.mk j3
   clear j1 j2 j3 K1 K2 K3 HR HB'
   have hol := HL.out
   go_region_law (refine Kd.R_append_step (Kd.int .u8) (w0 := w0) (W := W2.drew) w0.heap.size (by rfl) (.tmp 19) (.tmp 24) 23 5 (.int .u8 0) 1 (by rfl) Try.underlying23 info5 (by rfl) (by decide) (by omega) vo out' (IntKind.u8.wrap (q' / 2 ^ (m' - 8).toNat)) [.int .u8 (IntKind.u8.wrap (q' / 2 ^ (m' - 8).toNat))] (fun _ => True) (fun _ => False) (by rfl) (by rfl) (by rfl) (fun _ hk => hk.elim) (fun _ _ => trivial) (Kd.R_drew HR2.out) (below_drew HB2.out) HB2.out.size (by omega) ?_; intro v8 w3 ho hb hg hat; obtain ⟨A8, c8, e8⟩ := Kd.R_slice ho; subst e8; have HO := Aside0.mk ho; have HB3 := Aside0.mk hb; have HG3 := Aside0.mk hg; clear ho hb hg hat; have i1 := blk_grown (w := W2.drew) J1.out HG3.out (Kd.R_ne (Kd.R_drew HR2.out) J1.out (by decide)); have i2 := blk_grown (w := W2.drew) J2.out HG3.out (Kd.R_ne (Kd.R_drew HR2.out) J2.out (by decide)); have i3 := blk_grown (w := W2.drew) J3.out HG3.out (Kd.R_ne (Kd.R_drew HR2.out) J3.out (by decide)); have d3 := blk_cell i3 0; simp at d3; have e3 := blk_frozen i3 0; have I1 := Aside0.mk i1; have I2 := Aside0.mk i2; have I3 := Aside0.mk i3; clear i1 i2 i3)
   all_goals
    go_wp2
    generalize hW4 : w3.setCell ⟨go, 0, none⟩ (.slice A8 (out'.length + 1) c8) = W4
    have j1 : W4.heap[gb]? = some (.cells #[.int .i64 q'] 3 (0, 0)) := by rw [← hW4]; exact blk_far I1.out (fun h => NE2.out h.symm) _
    have j2 : W4.heap[gm]? = some (.cells #[.int .i64 (m' - 8)] 3 (0, 0)) := by rw [← hW4]; exact blk_far I2.out (fun h => NE1.out h.symm) _
    have j3 : W4.heap[go]? = some (.cells #[.slice A8 (out'.length + 1) c8] 23 (0, 0)) := by rw [← hW4]; exact blk_set I3.out 0 _
    have HR4 := Aside0.mk (show Kd.R (Kd.int .u8) 5 W4 w0.heap.size (fun _ => True) (.slice A8 (out'.length + 1) c8) (out' ++ [IntKind.u8.wrap (q' / 2 ^ (m' - 8).toNat)]) by
     rw [← hW4]
     have h9 := HO.out
     rw [show (out' ++ [IntKind.u8.wrap (q' / 2 ^ (m' - 8).toNat)]).length = out'.length + 1 by simp] at h9
     exact Kd.R_mono (Kd.R_far (p := ⟨go, 0, none⟩) (Kd.R_types h9 I3.out (by decide)) (fun k hk => hk.2) _) (fun _ _ => trivial))
    have HB4 := Aside0.mk (show Below w0.heap.size w0 W4 by rw [← hW4]; exact below_set HB3.out g3)
    clear hW4 c1 c2 c3 f1 f2 f3 c3a d3 e3 HO HB3 HG3 I1 I2 I3
    have c1 := blk_cell j1 0
    have c2 := blk_cell j2 0
    simp at c1 c2
    have f1 := blk_frozen j1 0
    have J1 := Aside0.mk j1
    have J2 := Aside0.mk j2
    have J3 := Aside0.mk j3
    clear j1 j2 j3
    go_region
    go_wp2
    cases gk with
    | zero => omega
    | succ k1 =>
    go_roundg k1
    case rel =>
     have hpw := pow_one (m' - 8).toNat
     have hq2 := HQ'.out
     have e8 : m'.toNat = 8 + (m' - 8).toNat := by omega
     rw [e8, Int.pow_add] at hq2
     have hdlt : q' / 2 ^ (m' - 8).toNat < 256 := Int.ediv_lt_of_lt_mul (by omega) (by have : (2 : Int) ^ 8 = 256 := rfl; omega)
     have hd0 : 0 ≤ q' / 2 ^ (m' - 8).toNat := Int.ediv_nonneg p0 (by omega)
     have hwr : IntKind.u8.wrap (q' / 2 ^ (m' - 8).toNat) = q' / 2 ^ (m' - 8).toNat := by rw [IntKind.wrap_u8]; omega
     have hb23 := pow_bits m' p1 p3
     have hand := and_mask q' (m' - 8).toNat p0 (by have := HQ'.out; omega) (by omega)
     rw [hand]
     rw [hwr] at HR4
     have hF := HF.out
     simp only [flushM] at hF
     rw [if_pos h8] at hF
     refine ⟨out' ++ [q' / 2 ^ (m' - 8).toNat], q' % 2 ^ (m' - 8).toNat, m' - 8, ⟨?_⟩, ⟨below_drew (below_set HB4.out g1)⟩, ⟨hF⟩, ⟨Int.emod_lt_of_pos _ (by omega)⟩, ⟨by simp; omega⟩, Int.emod_nonneg _ (by omega), by omega, by omega, by omega⟩
     refine ⟨blk_set J1.out 0 _, blk_far J2.out hne.symm _, hne, g1, g2, g3, _, blk_far J3.out NE2.out _, ?_⟩
     exact Kd.R_drew (Kd.R_mono (Kd.R_far (p := ⟨gb, 0, none⟩) (Kd.R_types HR4.out J1.out (by decide)) (fun k hk => hk.2) _) (fun _ _ => trivial))
    case measure => omega
  ·go_wp2
   have hF := HF.out
   have : flushM gk out' q' m' = (out', q', m') := by
    cases gk with
    | zero => rfl
    | succ k => simp only [flushM]; rw [if_neg (by omega)]
   rw [this] at hF
   go_end0
   refine ⟨rfl, ?_, HB'.out⟩
   rw [← hF]
   exact HPK'.out
end Go.Proofs.Ytcjjmfpkhhdmlaa.G


namespace Go.Proofs.Ytcjjmfpkhhdmlaa.G
open Go.RowKit Go.Proofs.YtcjjmfpkhhdmlaaW.PrintWords Go.Proofs.YtcjjmfpkhhdmlaaW.PrintLast Go.Proofs.YtcjjmfpkhhdmlaaW.PrintMore
attribute [local go_sem] max2_int min2_int max_two min_two max_three min_three max_four min_four   -- for this text's walks alone
/-- the bit at a place -/
def bitAt (b : List Int) (p : Nat) : Int := b.getD (p / 8) 0 / 2 ^ (7 - p % 8) % 2
/-- the number of k bits from a place on -/
def valB (b : List Int) (p : Nat) : Nat → Int
 | 0 => 0
 | k + 1 => 2 * valB b p k + bitAt b (p + k)
theorem bitAt_01 (b : List Int) (p : Nat) : 0 ≤ bitAt b p ∧ bitAt b p ≤ 1 := by unfold bitAt; omega
theorem two_pow_succ (k : Nat) : (2 : Int) ^ (k + 1) = 2 * 2 ^ k := by rw [Int.pow_succ, Int.mul_comm]
theorem valB_range (b : List Int) (p k : Nat) : 0 ≤ valB b p k ∧ valB b p k < 2 ^ k := by
 induction k with
 | zero => simp [valB]
 | succ k ih =>
  have := bitAt_01 b (p + k)
  rw [two_pow_succ]
  simp only [valB]
  omega
theorem valB_add (b : List Int) (p m k : Nat) : valB b p (m + k) = valB b p m * 2 ^ k + valB b (p + m) k := by
 induction k with
 | zero => simp [valB]
 | succ k ih =>
  rw [← Nat.add_assoc, two_pow_succ]
  simp only [valB]
  rw [ih, Nat.add_assoc, Int.mul_add]
  have : 2 * (valB b p m * 2 ^ k) = valB b p m * (2 * 2 ^ k) := by rw [Int.mul_left_comm]
  omega
theorem valB_byte (b : List Int) (j : Nat) (h : j < b.length) (h0 : 0 ≤ b[j]) (h1 : b[j] ≤ 255) : valB b (8 * j) 8 = b[j] := by
 have e : ∀ i, i < 8 → bitAt b (8 * j + i) = b[j] / 2 ^ (7 - i) % 2 := by
  intro i hi
  unfold bitAt
  rw [show (8 * j + i) / 8 = j by omega, show (8 * j + i) % 8 = i by omega]
  simp [h]
 have key : ∀ k, k ≤ 8 → valB b (8 * j) k = b[j] / 2 ^ (8 - k) := by
  intro k
  induction k with
  | zero =>
   intro _
   rw [show (2 : Int) ^ (8 - 0) = 256 from rfl]
   simp only [valB]; omega
  | succ k ih =>
   intro hk
   simp only [valB]
   rw [ih (by omega), e k (by omega), show 8 - k = (7 - k) + 1 by omega, Int.pow_succ, ← Int.ediv_ediv_of_nonneg (by have := pow_one (7 - k); omega), show 8 - (k + 1) = 7 - k by omega]
   omega
 rw [key 8 (by omega)]
 simp
/-- the bytes behind place j are taken until there are n bits from p on -/
theorem fillM_val (b : List Int) (hb : ∀ x ∈ b, 0 ≤ x ∧ x ≤ 255) (p n : Nat) (d : Nat) : ∀ (j m : Nat), b.length - j = d → p + m = 8 * j → j ≤ b.length →
  (p + n ≤ 8 * b.length → ∃ j2 m2 : Nat, fillM n (b.drop j) (valB b p m) m = some (b.drop j2, valB b p m2, (m2 : Int)) ∧ p + m2 = 8 * j2 ∧ j2 ≤ b.length ∧ n ≤ m2) ∧
  (¬ p + n ≤ 8 * b.length → fillM n (b.drop j) (valB b p m) m = none) := by
 induction d with
 | zero =>
  intro j m hd hp hj
  obtain rfl : j = b.length := by omega
  rw [List.drop_length]
  constructor
  ·intro h
   exact ⟨b.length, m, by rw [fillM_done (by omega), List.drop_length], hp, hj, by omega⟩
  ·intro h
   simp only [fillM]
   rw [if_pos (by omega)]
 | succ d ih =>
  intro j m hd hp hj
  have hlt : j < b.length := by omega
  by_cases hm : m < n
  ·rw [List.drop_eq_getElem_cons hlt, fillM_more (by omega)]
   have hx := hb _ (List.getElem_mem hlt)
   have e : valB b p m * 256 + b[j] = valB b p (m + 8) := by
    rw [valB_add, hp, valB_byte b j hlt hx.1 hx.2]; rfl
   rw [e, show (m : Int) + 8 = ((m + 8 : Nat) : Int) by omega]
   exact ih (j + 1) (m + 8) (by omega) (by omega) (by omega)
  ·constructor
   ·intro h
    exact ⟨j, m, by rw [fillM_done (by omega)], hp, hj, by omega⟩
   ·intro h; omega
end Go.Proofs.Ytcjjmfpkhhdmlaa.G


namespace Go.Proofs.Ytcjjmfpkhhdmlaa.G
open Go.RowKit Go.Proofs.YtcjjmfpkhhdmlaaW.PrintWords Go.Proofs.YtcjjmfpkhhdmlaaW.PrintLast Go.Proofs.YtcjjmfpkhhdmlaaW.PrintMore
attribute [local go_sem] max2_int min2_int max_two min_two max_three min_three max_four min_four   -- for this text's walks alone
/-- the number of k bits from a place on, the bits by a function -/
def valF (f : Nat → Int) (p : Nat) : Nat → Int
 | 0 => 0
 | k + 1 => 2 * valF f p k + f (p + k)
theorem valF_congr (f g : Nat → Int) (p k : Nat) (h : ∀ i, i < k → f (p + i) = g (p + i)) : valF f p k = valF g p k := by
 induction k with
 | zero => rfl
 | succ k ih => simp only [valF]; rw [ih (fun i hi => h i (by omega)), h k (by omega)]
theorem valF_add (f : Nat → Int) (p m k : Nat) : valF f p (m + k) = valF f p m * 2 ^ k + valF f (p + m) k := by
 induction k with
 | zero => simp [valF]
 | succ k ih =>
  rw [← Nat.add_assoc, two_pow_succ]
  simp only [valF]
  rw [ih, Nat.add_assoc, Int.mul_add]
  have : 2 * (valF f p m * 2 ^ k) = valF f p m * (2 * 2 ^ k) := by rw [Int.mul_left_comm]
  omega
theorem valF_range (f : Nat → Int) (hf : ∀ i, 0 ≤ f i ∧ f i ≤ 1) (p k : Nat) : 0 ≤ valF f p k ∧ valF f p k < 2 ^ k := by
 induction k with
 | zero => simp [valF]
 | succ k ih =>
  have := hf (p + k)
  rw [two_pow_succ]
  simp only [valF]
  omega
/-- bit p, ones beyond -/
def bt1 (B : List Bool) (p : Nat) : Int := if B.getD p true then 1 else 0
theorem bt1_01 (B : List Bool) (p : Nat) : 0 ≤ bt1 B p ∧ bt1 B p ≤ 1 := by unfold bt1; split <;> omega
theorem bt1_left (B C : List Bool) (p : Nat) (h : p < B.length) : bt1 (B ++ C) p = bt1 B p := by
 unfold bt1
 simp [h, List.getElem_append_left, List.getElem?_append_left h]
theorem bt1_right (B C : List Bool) (p : Nat) : bt1 (B ++ C) (B.length + p) = bt1 C p := by
 unfold bt1
 simp [List.getElem?_append_right]
/-- the bits of a number -/
def bitsN (n : Nat) (v : Int) : List Bool := (List.range n).map fun k => v / 2 ^ (n - 1 - k) % 2 == 1
theorem bitsN_length (n : Nat) (v : Int) : (bitsN n v).length = n := by simp [bitsN]
theorem bitsN_val (n : Nat) (v : Int) (h0 : 0 ≤ v) (h1 : v < 2 ^ n) : valF (bt1 (bitsN n v)) 0 n = v := by
 have key : ∀ k, k ≤ n → valF (bt1 (bitsN n v)) 0 k = v / 2 ^ (n - k) := by
  intro k
  induction k with
  | zero =>
   intro _
   simp only [valF, Nat.sub_zero]
   rw [Int.ediv_eq_zero_of_lt h0 h1]
  | succ k ih =>
   intro hk
   have hb : bt1 (bitsN n v) (0 + k) = v / 2 ^ (n - 1 - k) % 2 := by
    unfold bt1 bitsN
    rw [Nat.zero_add, List.getD_eq_getElem?_getD, List.getElem?_map, List.getElem?_range (by omega)]
    simp only [Option.map_some, Option.getD_some, beq_iff_eq]
    split <;> omega
   simp only [valF]
   rw [ih (by omega), hb, show n - k = (n - 1 - k) + 1 by omega, Int.pow_succ, ← Int.ediv_ediv_of_nonneg (by have := pow_one (n - 1 - k); omega), show n - (k + 1) = n - 1 - k by omega]
   omega
 rw [key n (Nat.le_refl _)]
 simp
/-- whole bytes of bits, what is over, and how many bits that are -/
def outOf (B : List Bool) (c : Nat) : List Int := (List.range c).map fun j => valF (bt1 B) (8 * j) 8
def stateOf (B : List Bool) : List Int × Int × Int := (outOf B (B.length / 8), valF (bt1 B) (8 * (B.length / 8)) (B.length % 8), ((B.length % 8 : Nat) : Int))
theorem outOf_left (B C : List Bool) (c : Nat) (h : 8 * c ≤ B.length) : outOf (B ++ C) c = outOf B c := by
 unfold outOf
 apply List.map_congr_left
 intro j hj
 have hj' : j < c := by simpa using hj
 exact valF_congr _ _ _ _ fun i hi => bt1_left B C _ (by omega)
theorem flush_val (f : Nat → Int) (hf : ∀ i, 0 ≤ f i ∧ f i ≤ 1) (d : Nat) : ∀ (c m : Nat), m < 8 * (d + 1) →
  flushM d ((List.range c).map fun j => valF f (8 * j) 8) (valF f (8 * c) m) m = ((List.range (c + m / 8)).map fun j => valF f (8 * j) 8, valF f (8 * (c + m / 8)) (m % 8), ((m % 8 : Nat) : Int)) := by
 induction d with
 | zero =>
  intro c m hm
  simp only [flushM]
  rw [show m / 8 = 0 by omega, show m % 8 = m by omega, Nat.add_zero]
 | succ d ih =>
  intro c m hm
  simp only [flushM]
  by_cases h8 : m ≥ 8
  ·rw [if_pos (by omega)]
   have e := valF_add f (8 * c) 8 (m - 8)
   rw [Nat.add_sub_cancel' h8] at e
   have hr := valF_range f hf (8 * c + 8) (m - 8)
   have hp := pow_one (m - 8)
   have t : ((m : Int) - 8).toNat = m - 8 := by omega
   have d1 : (valF f (8 * c) m) / 2 ^ (m - 8) = valF f (8 * c) 8 := by
    rw [e, Int.add_comm, Int.add_mul_ediv_right _ _ (by omega), Int.ediv_eq_zero_of_lt hr.1 hr.2, Int.zero_add]
   have d2 : (valF f (8 * c) m) % 2 ^ (m - 8) = valF f (8 * (c + 1)) (m - 8) := by
    rw [e, Int.add_comm, Int.add_mul_emod_self_right, Int.emod_eq_of_lt hr.1 hr.2, Nat.mul_add]
   rw [t, d1, d2, show (m : Int) - 8 = ((m - 8 : Nat) : Int) by omega]
   have h9 := ih (c + 1) (m - 8) (by omega)
   rw [List.range_succ, List.map_append, List.map_cons, List.map_nil] at h9
   rw [h9, show c + 1 + (m - 8) / 8 = c + m / 8 by omega, show (m - 8) % 8 = m % 8 by omega]
  ·rw [if_neg (by omega), show m / 8 = 0 by omega, show m % 8 = m by omega, Nat.add_zero]
/-- a number put behind -/
def putM (s : List Int × Int × Int) (n v : Int) : List Int × Int × Int := flushM 2 s.1 (s.2.1 * 2 ^ n.toNat + v) (s.2.2 + n)
theorem putM_state (B : List Bool) (n : Nat) (v : Int) (hn : n ≤ 16) (h0 : 0 ≤ v) (h1 : v < 2 ^ n) : putM (stateOf B) n v = stateOf (B ++ bitsN n v) := by
 unfold putM stateOf
 simp only [Int.toNat_natCast, List.length_append, bitsN_length]
 have hlen := bitsN_length n v
 have e1 : valF (bt1 B) (8 * (B.length / 8)) (B.length % 8) = valF (bt1 (B ++ bitsN n v)) (8 * (B.length / 8)) (B.length % 8) :=
  valF_congr _ _ _ _ fun i hi => (bt1_left B _ _ (by omega)).symm
 have e2 : v = valF (bt1 (B ++ bitsN n v)) (8 * (B.length / 8) + B.length % 8) n := by
  rw [show 8 * (B.length / 8) + B.length % 8 = B.length by omega]
  have : valF (bt1 (B ++ bitsN n v)) B.length n = valF (bt1 (bitsN n v)) 0 n := by
   have gen : ∀ k, valF (bt1 (B ++ bitsN n v)) B.length k = valF (bt1 (bitsN n v)) 0 k := by
    intro k
    induction k with
    | zero => rfl
    | succ k ih => simp only [valF]; rw [ih, bt1_right, Nat.zero_add]
   exact gen n
  rw [this, bitsN_val n v h0 h1]
 have e3 : valF (bt1 (B ++ bitsN n v)) (8 * (B.length / 8)) (B.length % 8) * 2 ^ n + valF (bt1 (B ++ bitsN n v)) (8 * (B.length / 8) + B.length % 8) n = valF (bt1 (B ++ bitsN n v)) (8 * (B.length / 8)) (B.length % 8 + n) := (valF_add _ _ _ _).symm
 rw [← e1, ← e2] at e3
 rw [e3, ← outOf_left B (bitsN n v) (B.length / 8) (by omega), show ((B.length % 8 : Nat) : Int) + (n : Int) = ((B.length % 8 + n : Nat) : Int) by omega]
 have h9 := flush_val (bt1 (B ++ bitsN n v)) (bt1_01 _) 2 (B.length / 8) (B.length % 8 + n) (by omega)
 have e4 : B.length / 8 + (B.length % 8 + n) / 8 = (B.length + n) / 8 := by omega
 have e5 : (B.length % 8 + n) % 8 = (B.length + n) % 8 := by omega
 rw [e4, e5] at h9
 unfold outOf
 exact h9
theorem stateOf_q0 (B : List Bool) : 0 ≤ (stateOf B).2.1 := (valF_range _ (bt1_01 B) _ _).1
theorem stateOf_q1 (B : List Bool) : (stateOf B).2.1 < 2 ^ (stateOf B).2.2.toNat := by
 have := (valF_range _ (bt1_01 B) (8 * (B.length / 8)) (B.length % 8)).2
 show _ < 2 ^ (((B.length % 8 : Nat) : Int)).toNat
 rw [Int.toNat_natCast]
 exact this
theorem stateOf_m (B : List Bool) : 0 ≤ (stateOf B).2.2 ∧ (stateOf B).2.2 ≤ 7 := by
 unfold stateOf
 simp only
 omega
theorem stateOf_len (B : List Bool) : (stateOf B).1.length = B.length / 8 := by simp [stateOf, outOf]
theorem bitsN_ones (k : Nat) : bitsN k (2 ^ k - 1) = List.replicate k true := by
 have key : ∀ k : Nat, ∀ j, j < k → ((2 : Int) ^ k - 1) / 2 ^ (k - 1 - j) % 2 = 1 := by
  intro k j hj
  have e : (2 : Int) ^ k = 2 ^ (k - 1 - j) * (2 * 2 ^ j) := by
   rw [← two_pow_succ, ← Int.pow_add, show k - 1 - j + (j + 1) = k by omega]
  have hp := pow_one (k - 1 - j)
  have : (2 : Int) ^ k - 1 = (2 ^ (k - 1 - j) - 1) + (2 * 2 ^ j - 1) * 2 ^ (k - 1 - j) := by
   rw [e, Int.sub_mul, Int.mul_comm (2 * 2 ^ j)]; omega
  rw [this, Int.add_mul_ediv_right _ _ (by omega), Int.ediv_eq_zero_of_lt (by omega) (by omega)]
  omega
 unfold bitsN
 apply List.ext_getElem
 ·simp
 ·intro i h1 h2
  simp at h1
  simp [key k i h1]
/-- bits laid, filled up with ones -/
def packM (B : List Bool) : List Int := outOf B ((B.length + 7) / 8)
theorem packM_even (B : List Bool) (h : B.length % 8 = 0) : (stateOf B).1 = packM B := by
 unfold stateOf packM
 simp only
 rw [show (B.length + 7) / 8 = B.length / 8 by omega]
theorem bt1_ones (B : List Bool) (k p : Nat) : bt1 (B ++ List.replicate k true) p = bt1 B p := by
 unfold bt1
 simp only [List.getD_eq_getElem?_getD, List.getElem?_append, List.getElem?_replicate]
 by_cases h : p < B.length
 ·simp [h]
 ·have : B[p]? = none := List.getElem?_eq_none (by omega)
  simp only [h, if_false, this]
  split <;> simp
theorem packM_filled (B : List Bool) (h : 0 < B.length % 8) : (stateOf (B ++ bitsN (8 - B.length % 8) (2 ^ (8 - B.length % 8) - 1))).1 = packM B := by
 rw [bitsN_ones]
 unfold stateOf packM outOf
 simp only [List.length_append, List.length_replicate]
 rw [show (B.length + (8 - B.length % 8)) / 8 = (B.length + 7) / 8 by omega]
 apply List.map_congr_left
 intro j hj
 exact valF_congr _ _ _ _ fun i hi => bt1_ones B _ _
end Go.Proofs.Ytcjjmfpkhhdmlaa.G


namespace Go.Proofs.Ytcjjmfpkhhdmlaa.G
open Go.RowKit Go.Proofs.YtcjjmfpkhhdmlaaW.PrintWords Go.Proofs.YtcjjmfpkhhdmlaaW.PrintLast Go.Proofs.YtcjjmfpkhhdmlaaW.PrintMore
attribute [local go_sem] max2_int min2_int max_two min_two max_three min_three max_four min_four   -- for this text's walks alone
--import Derived.StillTailTactics
/-- the bits of fields -/
def allBits : List S124 → List Bool
 | [] => []
 | x :: l => bitsN x.f0.toNat x.f1 ++ allBits l
theorem allBits_app (a b : List S124) : allBits (a ++ b) = allBits a ++ allBits b := by
 induction a with
 | nil => rfl
 | cons x a ih => simp only [List.cons_append, allBits, ih, List.append_assoc]
theorem allBits_len (l : List S124) (h : l.all fOk = true) : ((allBits l).length : Int) = sumF l := by
 induction l with
 | nil => rfl
 | cons x l ih =>
  rw [List.all_cons, Bool.and_eq_true] at h
  have h1 := h.1
  simp only [fOk, Bool.and_eq_true, decide_eq_true_eq] at h1
  have := ih h.2
  simp only [allBits, sumF, List.length_append, bitsN_length]
  omega
theorem allBits_le (m : List S124) (h : m.all fOk = true) : (allBits m).length ≤ 16 * m.length := by
 induction m with
 | nil => exact Nat.le_refl _
 | cons x m ih =>
  rw [List.all_cons, Bool.and_eq_true] at h
  have h1 := h.1
  simp only [fOk, Bool.and_eq_true, decide_eq_true_eq] at h1
  have := ih h.2
  simp only [allBits, List.length_append, bitsN_length, List.length_cons]
  omega
theorem allBits_take (l : List S124) (h : l.all fOk = true) (i : Nat) : (allBits (l.take i)).length ≤ 16 * i := by
 have h1 := allBits_le (l.take i) (by rw [List.all_eq_true] at h ⊢; exact fun x hx => h x (List.mem_of_mem_take hx))
 have h2 : (l.take i).length ≤ i := by simp; omega
 omega
theorem putM_field (B : List Bool) (n v : Int) (h0 : 0 ≤ n) (h1 : n ≤ 16) (h2 : 0 ≤ v) (h3 : v < 2 ^ n.toNat) : flushM 2 (stateOf B).1 ((stateOf B).2.1 * 2 ^ n.toNat + v) ((stateOf B).2.2 + n) = stateOf (B ++ bitsN n.toNat v) := by
 have := putM_state B n.toNat v (by omega) h2 h3
 unfold putM at this
 rw [Int.toNat_natCast, Int.toNat_of_nonneg h0] at this
 exact this
theorem ones_k (k : Nat) : (0 : Int) ≤ 2 ^ k - 1 ∧ (2 : Int) ^ k - 1 < 2 ^ ((k : Int)).toNat := by
 have := pow_one k
 rw [Int.toNat_natCast]
 generalize (2 : Int) ^ k = z at this ⊢
 omega
theorem mask_k (k : Nat) (hk : k ≤ 16) : IntKind.i64.wrap (IntKind.i64.wrap ((2 : Int) ^ min k 64) - 1) = 2 ^ k - 1 := by
 have e2 := pow_16 (k : Int) (by omega) (by omega)
 rw [Int.toNat_natCast] at e2
 rw [Nat.min_eq_left (by omega)]
 generalize (2 : Int) ^ k = z at e2 ⊢
 rw [IntKind.wrap_i64, IntKind.wrap_i64]; omega
def impl_PackBits.f (l0 : List S124) : Option (List Int) := if l0.length ≤ 1048576 then some (if fldOk l0 then packM (allBits l0) else []) else none
def PackRel (w : World) (gb gm go : Nat) (l0 : List S124) (v16 : Value) (w' : World) : Prop :=
 ∃ i : Nat, v16 = .int .i64 i ∧ i ≤ l0.length ∧ Aside0 (Below w.heap.size w w') ∧ Aside0 (PK w w' gb gm go (stateOf (allBits (l0.take i))).1 (stateOf (allBits (l0.take i))).2.1 (stateOf (allBits (l0.take i))).2.2)
theorem PK.below {w0 W W1 : World} {gb gm go : Nat} {out : List Int} {q m : Int} (h : PK w0 W gb gm go out q m) (hb : Below W.heap.size W W1) : PK w0 W1 gb gm go out q m := by
 obtain ⟨k1, k2, hne, g1, g2, g3, v, k3, hR⟩ := h
 exact ⟨blk_below k1 hb, blk_below k2 hb, hne, g1, g2, g3, v, blk_below k3 hb, Kd.R_below hR hb⟩
set_option maxRecDepth 100000 in
set_option maxHeartbeats 4000000 in
theorem impl_PackBits.calls (A0 : Option Addr) (c0 : Nat) (l0 : List S124) (r : List Int) (w : World) (hr0 : Kd.C k124 w A0 l0.length l0) (hc0 : l0.length ≤ c0) (h : impl_PackBits.f l0 = some r) :
  Calls Try.prog 121 #[.slice A0 l0.length c0] w fun e w' => ∃ v0_ : Value, e = .returned (v0_) ∧ Kd.R (Kd.int .u8) 5 w' w.heap.size (fun _ => True) v0_ r ∧ Below w.heap.size w w' := by
 unfold impl_PackBits.f at h
 split at h
 ·rename_i hl
  have HH := Aside0.mk (Option.some.inj h)
  obtain ⟨kf, hkf⟩ := (impl_FieldsOk.ev l0 hl).rounds
  have HF := Aside0.mk hkf
  have HR0 := Aside0.mk hr0
  have HC0 := Aside0.mk hc0
  clear h hkf hr0 hc0
  cases hok : fldOk l0
  ·rw [hok] at HF HH
   go_enter Try.func121, Try.ntmps121
   go_wp2_with fail
   refine (impl_FieldsOk.calls kf _ _ l0 false _ HR0.out HC0.out HF.out).mono ?_
   rintro e_ w_ ⟨rfl, hb⟩
   have HB := Aside0.mk hb
   clear hb
   go_wp2
   go_ret
   refine ⟨_, rfl, ?_, HB.out⟩
   rw [← HH.out]
   exact Kd.R_nil _ _ _ _ _
  ·rw [hok] at HF HH
   have HOK := Aside0.mk hok
   clear hok
   go_enter Try.func121, Try.ntmps121
   go_wp2_with fail
   refine (impl_FieldsOk.calls kf _ _ l0 true _ HR0.out HC0.out HF.out).mono ?_
   rintro e_ w_ ⟨rfl, hb⟩
   have HB0 := Aside0.mk hb
   clear hb
   go_wp2_with (first | ((with_reducible refine gate_dst (N := 12) rfl ?_); refine Kd.R_lit (w0 := w) (Kd.int .u8) w.heap.size 5 ?hg (N := 12) ?hd (xs := ([] : List Int)) (inner := []) (ok := fun _ => True) (okp := fun _ => True) ?hr ?hp (fun _ hk => hk) trivial HB0.out HB0.out.size (by simp) ?_; (case hd => rfl); (case hg => rfl); (case hr => first | (go_simp; done) | (go_simp; rfl)); (case hp => exact (Reps.none _ _)); intro v7 w1 ho hb hg_ hnew_; obtain ⟨A7, c7, e7⟩ := Kd.R_slice ho; subst e7; have HO := Aside0.mk ho; have HB := Aside0.mk hb; have HG := Aside0.mk hg_; clear ho hb hg_ hnew_))
   generalize hW : ((w1.alloc (Obj.cells #[Value.slice A7 0 c7] 23)).alloc (Obj.cells #[Value.int IntKind.i64 0] 3)).alloc (Obj.cells #[Value.int IntKind.i64 0] 3) = W1
   have g0 : w.heap.size ≤ w1.heap.size := HB.out.size
   have k3 : W1.heap[w1.heap.size]? = some (.cells #[.slice A7 0 c7] 23 (0, 0)) := by rw [← hW]; exact blk_alloc (blk_alloc (blk_new _ _) _) _
   have k1 : W1.heap[w1.heap.size + 1]? = some (.cells #[.int .i64 0] 3 (0, 0)) := by
    have := blk_alloc (blk_new (w1.alloc (Obj.cells #[Value.slice A7 0 c7] 23)) (Obj.cells #[Value.int IntKind.i64 0] 3)) (Obj.cells #[Value.int IntKind.i64 0] 3)
    rw [hW] at this; simpa using this
   have k2 : W1.heap[w1.heap.size + 1 + 1]? = some (.cells #[.int .i64 0] 3 (0, 0)) := by
    have := blk_new ((w1.alloc (Obj.cells #[Value.slice A7 0 c7] 23)).alloc (Obj.cells #[Value.int IntKind.i64 0] 3)) (Obj.cells #[Value.int IntKind.i64 0] 3)
    rw [hW] at this; simpa using this
   have HB1 := Aside0.mk (show Below w1.heap.size w1 W1 by rw [← hW]; exact below_alloc (below_alloc (below_alloc (Below.refl _ _) _) _) _)
   clear hW
   have HPK := Aside0.mk (show PK w W1 (w1.heap.size + 1) (w1.heap.size + 1 + 1) w1.heap.size [] 0 0 from ⟨k1, k2, by omega, by omega, by omega, by omega, _, k3, Kd.R_below HO.out HB1.out⟩)
   have HB2 := Aside0.mk (show Below w.heap.size w W1 from Below.trans HB.out (HB1.out.mono g0))
   clear k1 k2 k3 HO HB1 HG
   generalize w1.heap.size = go at HPK g0 ⊢
   generalize go + 1 = gb at HPK ⊢
   generalize gb + 1 = gm at HPK ⊢
   clear g0 HB HB0
   go_loopw [16] (fun v16 w' => PackRel w gb gm go l0 v16 w') (fun v16 w' => l0.length - (intOf v16).toNat)
   case atStart => exact ⟨0, rfl, Nat.zero_le _, HB2, ⟨by rw [List.take_zero]; exact HPK.out⟩⟩
   case round =>
    obtain ⟨i, rfl, hi, HBr, HP⟩ := hrel
    by_cases hlt : i < l0.length
    ·obtain ⟨ad, rfl, x0, x1⟩ := at_T124 HR0.out (i : Int) (by omega) (by omega)
     rw [Int.toNat_natCast, rdF_nat l0 i hlt] at x0 x1
     replace x0 := (HBr.out.cell (World.block_lt_of_cell? w _ x0)).trans x0
     replace x1 := (HBr.out.cell (World.block_lt_of_cell? w _ x1)).trans x1
     have hall : l0.all fOk = true := by have := HOK.out; unfold fldOk at this; rw [Bool.and_eq_true] at this; exact this.1
     have hfi : fOk l0[i] = true := List.all_eq_true.1 hall _ (List.getElem_mem hlt)
     simp only [fOk, Bool.and_eq_true, decide_eq_true_eq] at hfi
     have hsl := allBits_take l0 hall i
     have HFI := Aside0.mk hfi
     have HPUT := Aside0.mk (putM_field (allBits (l0.take i)) l0[i].f0 l0[i].f1 hfi.1.1 hfi.1.2 hfi.2.1 (by omega))
     clear hfi hall
     go_wp2_with fail
     refine (put_calls w _ gb gm go _ _ _ l0[i].f0 l0[i].f1 (below_alloc HBr.out _) (PK.below HP.out (below_alloc (Below.refl _ _) _)) (stateOf_q0 _) (stateOf_q1 _) (stateOf_m _).1 (stateOf_m _).2 HFI.out.1.1 HFI.out.1.2 HFI.out.2.1 (by have := HFI.out.2.2; omega) (by rw [stateOf_len]; omega)).mono ?_
     rintro e_ w2 ⟨rfl, ⟨r_, hr, hpk⟩, hb⟩
     rw [HPUT.out] at hr
     subst hr
     have HPK2 := Aside0.mk hpk
     have HB3 := Aside0.mk hb
     clear hpk hb
     go_wp2
     go_roundw
     case rel =>
      refine ⟨i + 1, by go_num, by omega, HB3, ⟨?_⟩⟩
      rw [List.take_succ_eq_append_getElem hlt, allBits_app]
      have := HPK2.out
      simpa [allBits] using this
     case measure => simp [intOf]; omega
    ·obtain rfl : i = l0.length := by omega
     have HP1 := Aside0.mk (show PK w wr gb gm go (stateOf (allBits l0)).1 (stateOf (allBits l0)).2.1 (stateOf (allBits l0)).2.2 by have := HP.out; rwa [List.take_length] at this)
     have HE := Aside0.mk (show (if True then packM (allBits l0) else []) = packM (allBits l0) from if_pos trivial)
     have hm : (stateOf (allBits l0)).2.2 = (((allBits l0).length % 8 : Nat) : Int) := rfl
     have HPM := Aside0.mk (fun h => packM_even (allBits l0) h)
     have HPF := Aside0.mk (fun h => packM_filled (allBits l0) h)
     have hall : l0.all fOk = true := by have := HOK.out; unfold fldOk at this; rw [Bool.and_eq_true] at this; exact this.1
     have hsl := allBits_le l0 hall
     clear HP hall
     generalize allBits l0 = B at HP1 HE HPM HPF hm hsl HH
     obtain ⟨k1, k2, hne, g1, g2, g3, vo, k3, hR⟩ := HP1.out
     have c2 := blk_cell k2 0
     have c3 := blk_cell k3 0
     simp at c2 c3
     have NE := Aside0.mk hne
     have HR := Aside0.mk hR
     rw [hm] at c2
     clear k1 k2 k3 hR hne
     by_cases h8 : B.length % 8 = 0
     ·go_wp2
      go_ret
      refine ⟨_, rfl, ?_, HBr.out⟩
      have h5 := HR.out
      rw [HPM.out h8, ← HE.out, HH.out] at h5
      exact h5
     ·obtain ⟨mm, hmm⟩ : ∃ mm : Nat, B.length % 8 = mm := ⟨_, rfl⟩
      obtain ⟨k, hk⟩ : ∃ k : Nat, k + mm = 8 := ⟨8 - mm, by omega⟩
      rw [hmm] at c2 hm h8 HPF
      have HM := Aside0.mk hm
      have HMM := Aside0.mk hmm
      clear hm hmm
      have h9 : 0 < (mm : Int) := by omega
      have e1 : IntKind.i64.wrap (8 - (mm : Int)) = (k : Int) := by rw [IntKind.wrap_i64]; omega
      have e2 := pow_16 (k : Int) (by omega) (by omega)
      rw [Int.toNat_natCast] at e2
      have HK := Aside0.mk hk
      clear hk
      go_wp2
      go_still_tail 7, (by kernel_rfl)
      change wpList _ _ _ _ _ wr.drew
      rw [mask_k k (by have := HK.out; omega)]
      clear e2
      have HPUT := Aside0.mk (putM_field B (k : Int) (2 ^ k - 1) (by omega) (by have := HK.out; omega) (ones_k k).1 (ones_k k).2)
      rw [Int.toNat_natCast] at HPUT
      rw [show 8 - mm = k by have := HK.out; omega] at HPF
      go_wp2_with fail
      refine (put_calls w _ gb gm go _ _ _ (k : Int) (2 ^ k - 1) (below_drew HBr.out) (PK.below HP1.out (below_drew (Below.refl _ _))) (stateOf_q0 _) (stateOf_q1 _) (stateOf_m _).1 (stateOf_m _).2 (by omega) (by have := HK.out; omega) (ones_k k).1 (ones_k k).2 (by rw [stateOf_len]; omega)).mono ?_
      rintro e_ w2 ⟨rfl, ⟨r_, hr, hpk⟩, hb⟩
      rw [Int.toNat_natCast, HPUT.out] at hr
      subst hr
      have HB3 := Aside0.mk hb
      obtain ⟨j1, j2, _, _, _, _, vo2, j3, hR⟩ := hpk
      have d3 := blk_cell j3 0
      simp at d3
      have HR2 := Aside0.mk hR
      clear j1 j2 j3 hR hb c2 c3 e1
      go_wp2
      go_ret
      refine ⟨_, rfl, ?_, HB3.out⟩
      have h5 := HR2.out
      rw [HPF.out (by omega), ← HE.out, HH.out] at h5
      exact h5
 ·cases h
end Go.Proofs.Ytcjjmfpkhhdmlaa.G


namespace Go.Proofs.Ytcjjmfpkhhdmlaa.G
open Go.RowKit Go.Proofs.YtcjjmfpkhhdmlaaW.PrintWords Go.Proofs.YtcjjmfpkhhdmlaaW.PrintLast Go.Proofs.YtcjjmfpkhhdmlaaW.PrintMore
attribute [local go_sem] max2_int min2_int max_two min_two max_three min_three max_four min_four   -- for this text's walks alone
def impl_allWithin.l0 : Nat → Int → Int → List Int → Int → Int → Option (Bool)
 | 0, _, _, _, _, _ => none
 | k + 1, x1, x2, x9, x10, x11 => if x11 < x10 then (if 0 ≤ x11 then (if x11 < (x9.length : Int) then ((impl_within.f (rd x9 x11) x1 x2).bind fun t131 => (if t131 = true then (impl_allWithin.l0 k x1 x2 x9 x10 (wrap64 (x11 + 1))) else (some false))) else (none)) else (none)) else (some true)
def impl_allWithin.f (k : Nat) (l0 : List Int) (a1 : Int) (a2 : Int) : Option (Bool) := impl_allWithin.l0 k a1 a2 l0 (l0.length : Int) 0
theorem impl_allWithin.mono_l : ∀ k, (∀ y0 y1 y2 y3 y4, LeO (impl_allWithin.l0 k y0 y1 y2 y3 y4) (impl_allWithin.l0 (k + 1) y0 y1 y2 y3 y4))
 | 0 => fun _ _ _ _ _ r h => by simp [impl_allWithin.l0] at h
 | k + 1 => by
  have ih0 := impl_allWithin.mono_l k
  ·intro y0 y1 y2 y3 y4
   unfold impl_allWithin.l0
   repeat' first
   | (with_reducible exact ih0 _ _ _ _ _)
   | (with_reducible exact LeO.refl _)
   | (with_reducible exact LeO.none _)
   | (with_reducible refine LeO.ite ?_ ?_)
   | (with_reducible refine LeO.bind ?_ (fun _ => ?_))
   | exact ih0 _ _ _ _ _
   | exact LeO.none _
   | refine LeO.ite ?_ ?_
   | refine LeO.bind ?_ (fun _ => ?_)
theorem impl_allWithin.mono : ∀ a0 a1 a2 k, LeO (impl_allWithin.f k a0 a1 a2) (impl_allWithin.f (k + 1) a0 a1 a2) := by
 intro a0 a1 a2 k
 have ih0 := impl_allWithin.mono_l k
 unfold impl_allWithin.f
 repeat' first
   | (with_reducible exact ih0 _ _ _ _ _)
   | (with_reducible exact LeO.refl _)
   | (with_reducible exact LeO.none _)
   | (with_reducible refine LeO.ite ?_ ?_)
   | (with_reducible refine LeO.bind ?_ (fun _ => ?_))
   | exact ih0 _ _ _ _ _
   | exact LeO.none _
   | refine LeO.ite ?_ ?_
   | refine LeO.bind ?_ (fun _ => ?_)
set_option maxHeartbeats 8000000 in
set_option maxRecDepth 100000 in
theorem impl_allWithin.calls (k : Nat) (A0 : Option Addr) (c0 : Nat) (l0 : List Int) (a1 : Int) (a2 : Int) (r : Bool) (w : World) (hr0 : Kd.C (Kd.int .i64) w A0 l0.length l0) (hc0 : l0.length ≤ c0) (h : impl_allWithin.f k l0 a1 a2 = some r) :
  Calls Try.prog 94 #[.slice A0 l0.length c0, .int .i64 a1, .int .i64 a2] w fun e w' => e = .returned (.bool r) ∧ Drawn0 w w' := by
 have HR0 := Aside0.mk hr0
 have HC0 := Aside0.mk hc0
 clear hr0 hc0
 have H : (impl_allWithin.l0 k a1 a2 l0 (l0.length : Int) 0) = some r := h
 clear h
 have H' := Aside0.mk H
 clear H
 go_enter Try.func94, Try.ntmps94
 go_wp2
 go_loopg [11] k (fun kq v11 w' => ∃ (x11_1 : Int), v11 = .int .i64 x11_1 ∧ Aside0 (impl_allWithin.l0 kq a1 a2 l0 (l0.length : Int) x11_1 = some r) ∧ Aside0 (kq ≤ k) ∧ Drawn0 w w')
 case atStart => exact ⟨(0), (by first | rfl | (simp; done) | (simp [*]; done)), H', ⟨Nat.le_refl _⟩, by repeat (first | exact Drawn0.refl _ | apply Drawn0.step)⟩
 case round =>
  clear H'
  try clear p2
  obtain ⟨x11_1, rfl, HA, HK1, ⟨m1, rfl⟩⟩ := hrel
  cases gk with
  | zero => exact absurd HA.out (by simp [impl_allWithin.l0])
  | succ k1 =>
   have H := HA.out
   clear HA
   simp only [impl_allWithin.l0] at H
   by_cases c4 : x11_1 < (l0.length : Int)
   ·rw [if_pos c4] at H
    have c4b0 : decide (x11_1 < (l0.length : Int)) = true := decide_eq_true c4
    clear c4
    by_cases c5 : 0 ≤ x11_1
    ·rw [if_pos c5] at H
     have c5b0 : decide (0 ≤ x11_1) = true := decide_eq_true c5
     clear c5
     by_cases c6 : x11_1 < (l0.length : Int)
     ·rw [if_pos c6] at H
      have c6b0 : decide (x11_1 < (l0.length : Int)) = true := decide_eq_true c6
      clear c6
      replace H := Option.bind_eq_some_iff.mp H
      obtain ⟨t131, A70, H⟩ := H
      replace H : (if t131 = true then (impl_allWithin.l0 k1 a1 a2 l0 (l0.length : Int) (wrap64 (x11_1 + 1))) else (some false)) = some r := H
      have A7 := Aside0.mk A70
      clear A70
      by_cases c8 : t131 = true
      ·subst c8
       have H1 : (impl_allWithin.l0 k1 a1 a2 l0 (l0.length : Int) (wrap64 (x11_1 + 1))) = some r := by rw [if_pos rfl] at H; exact H
       clear H
       have H := H1
       clear H1
       have H' := Aside0.mk H
       clear H
       have p130 : 0 ≤ (x11_1 : Int) := of_decide_eq_true (by first | (with_reducible assumption) | assumption)
       have q130 : x11_1 < (l0.length : Int) := of_decide_eq_true (by first | (with_reducible assumption) | assumption)
       obtain ⟨ad130, e130, hx130_0⟩ := Kd.at_int HR0.out x11_1 p130 q130
       cases e130
       replace p130 := eq_true p130
       replace q130 := eq_true q130
       go_wp2_with (first | ((with_reducible refine gate_callee (f := 81) rfl ?_); refine goesL_ (some 18) rfl rfl Try.func81 (by kernel_rfl) rfl #[.int .i64 (rd l0 x11_1), .int .i64 a1, .int .i64 a2] rfl (by (try simp only [List.map_toArray, List.map_cons, List.map_nil]); first | done | rfl | (simp only [List.length_drop, List.length_take]; rfl)) ?_; (with_reducible refine (impl_within.calls (rd l0 x11_1) a1 a2 true _ A7.out).mono ?_); rintro e w' ⟨rfl, ⟨nd, rfl⟩⟩; refine ⟨_, rfl, ?_⟩))
       go_roundg k1
       case measure => have := HK1.out; omega
       case rel => exact ⟨(wrap64 (x11_1 + 1)), (by first | rfl | (simp; done) | (simp [*]; done)), H', ⟨by have := HK1.out; omega⟩, by repeat (first | exact Drawn0.refl _ | apply Drawn0.step)⟩
      ·replace c8 := Bool.eq_false_iff.mpr c8
       subst c8
       have H1 : (some false) = some r := by rw [if_neg (show ¬ (false = true) by decide)] at H; exact H
       clear H
       have H := H1
       clear H1
       obtain rfl := Option.some.inj H
       have p130 : 0 ≤ (x11_1 : Int) := of_decide_eq_true (by first | (with_reducible assumption) | assumption)
       have q130 : x11_1 < (l0.length : Int) := of_decide_eq_true (by first | (with_reducible assumption) | assumption)
       obtain ⟨ad130, e130, hx130_0⟩ := Kd.at_int HR0.out x11_1 p130 q130
       cases e130
       replace p130 := eq_true p130
       replace q130 := eq_true q130
       go_wp2_with (first | ((with_reducible refine gate_callee (f := 81) rfl ?_); refine goesL_ (some 18) rfl rfl Try.func81 (by kernel_rfl) rfl #[.int .i64 (rd l0 x11_1), .int .i64 a1, .int .i64 a2] rfl (by (try simp only [List.map_toArray, List.map_cons, List.map_nil]); first | done | rfl | (simp only [List.length_drop, List.length_take]; rfl)) ?_; (with_reducible refine (impl_within.calls (rd l0 x11_1) a1 a2 false _ A7.out).mono ?_); rintro e w' ⟨rfl, ⟨nd, rfl⟩⟩; refine ⟨_, rfl, ?_⟩))
       go_ret
       exact ⟨by first | rfl | (simp; done) | (simp [*]; done), by repeat (first | exact Drawn0.refl _ | apply Drawn0.step)⟩
     ·rw [if_neg c6] at H
      exact absurd H (by simp)
    ·rw [if_neg c5] at H
     exact absurd H (by simp)
   ·rw [if_neg c4] at H
    have c4b0 : decide (x11_1 < (l0.length : Int)) = false := decide_eq_false c4
    clear c4
    obtain rfl := Option.some.inj H
    go_wp2
    go_ret
    exact ⟨by first | rfl | (simp; done) | (simp [*]; done), by repeat (first | exact Drawn0.refl _ | apply Drawn0.step)⟩
theorem impl_allWithin.go (lo hi : Int) (l : List Int) (hm : l.length < 4611686018427387904) (d : Nat) : ∀ (i : Nat) (k : Nat), l.length - i = d → i ≤ l.length → d < k →
  impl_allWithin.l0 k lo hi l (l.length : Int) (i : Int) = some (allW lo hi (l.drop i)) := by
 induction d with
 | zero =>
  intro i k hd hi' hk
  obtain ⟨k, rfl⟩ : ∃ m, k = m + 1 := ⟨k - 1, by omega⟩
  obtain rfl : i = l.length := by omega
  simp only [impl_allWithin.l0]
  rw [if_neg (by omega)]
  simp [allW]
 | succ d ih =>
  intro i k hd hi' hk
  obtain ⟨k, rfl⟩ : ∃ m, k = m + 1 := ⟨k - 1, by omega⟩
  have hlt : i < l.length := by omega
  simp only [impl_allWithin.l0]
  rw [if_pos (by omega), if_pos (by omega), if_pos (by omega)]
  have hrd : rd l (i : Int) = l[i] := by simp [rd, hlt]
  have hda : allW lo hi (l.drop i) = (decide (lo ≤ l[i]) && decide (l[i] ≤ hi) && allW lo hi (l.drop (i + 1))) := by
   unfold allW; rw [List.drop_eq_getElem_cons hlt, List.all_cons]
  have hw : wrap64 ((i : Int) + 1) = ((i + 1 : Nat) : Int) := by unfold wrap64; omega
  rw [hda, hrd, hw, ih (i + 1) k (by omega) (by omega) (by omega)]
  unfold impl_within.f
  by_cases h1 : l[i] ≥ lo
  ·rw [if_pos h1]
   by_cases h2 : l[i] ≤ hi
   ·simp [h2, ge_iff_le.mp h1]
   ·simp [h2]
  ·rw [if_neg h1]
   have : ¬ lo ≤ l[i] := h1
   simp [this]
theorem impl_allWithin.ev (lo hi : Int) (l : List Int) (hm : l.length < 4611686018427387904) : ∃ k, impl_allWithin.f k l lo hi = some (allW lo hi l) :=
 ⟨l.length + 1, by unfold impl_allWithin.f; exact impl_allWithin.go lo hi l hm l.length 0 _ (by omega) (by omega) (by omega)⟩
end Go.Proofs.Ytcjjmfpkhhdmlaa.G


namespace Go.Proofs.Ytcjjmfpkhhdmlaa.G
open Go.RowKit Go.Proofs.YtcjjmfpkhhdmlaaW.PrintWords Go.Proofs.YtcjjmfpkhhdmlaaW.PrintLast Go.Proofs.YtcjjmfpkhhdmlaaW.PrintMore
attribute [local go_sem] max2_int min2_int max_two min_two max_three min_three max_four min_four   -- for this text's walks alone
theorem shl1 (n : Int) (h0 : 0 ≤ n) (h1 : n ≤ 16) : shl .i64 1 n = 2 ^ n.toNat := by
 have : n = 0 ∨ n = 1 ∨ n = 2 ∨ n = 3 ∨ n = 4 ∨ n = 5 ∨ n = 6 ∨ n = 7 ∨ n = 8 ∨ n = 9 ∨ n = 10 ∨ n = 11 ∨ n = 12 ∨ n = 13 ∨ n = 14 ∨ n = 15 ∨ n = 16 := by omega
 rcases this with rfl | rfl | rfl | rfl | rfl | rfl | rfl | rfl | rfl | rfl | rfl | rfl | rfl | rfl | rfl | rfl | rfl <;> decide
/-- what codes of these lengths take -/
def kraft : List Int → Int
 | [] => 0
 | l :: t => (if 0 < l then 2 ^ (16 - l).toNat else 0) + kraft t
def lensOkM (lens : List Int) : Bool := decide (lens.length ≤ 256) && allW 0 16 lens && (decide (1 ≤ kraft lens) && decide (kraft lens ≤ 65536))
theorem pow16 (l : Int) (h0 : 0 < l) (h1 : l ≤ 16) : 1 ≤ (2 : Int) ^ (16 - l).toNat ∧ (2 : Int) ^ (16 - l).toNat ≤ 32768 := by
 have : l = 1 ∨ l = 2 ∨ l = 3 ∨ l = 4 ∨ l = 5 ∨ l = 6 ∨ l = 7 ∨ l = 8 ∨ l = 9 ∨ l = 10 ∨ l = 11 ∨ l = 12 ∨ l = 13 ∨ l = 14 ∨ l = 15 ∨ l = 16 := by omega
 rcases this with rfl | rfl | rfl | rfl | rfl | rfl | rfl | rfl | rfl | rfl | rfl | rfl | rfl | rfl | rfl | rfl <;> decide
theorem allW_at {lo hi : Int} {l : List Int} (h : allW lo hi l = true) : ∀ x ∈ l, lo ≤ x ∧ x ≤ hi := by
 unfold allW at h
 simpa only [List.all_eq_true, Bool.and_eq_true, decide_eq_true_eq] using h
theorem kraft_range (l : List Int) (h : ∀ x ∈ l, 0 ≤ x ∧ x ≤ 16) : 0 ≤ kraft l ∧ kraft l ≤ l.length * 32768 := by
 induction l with
 | nil => simp [kraft]
 | cons x t ih =>
  have h1 := ih (fun y hy => h y (List.mem_cons_of_mem _ hy))
  have h2 := h x List.mem_cons_self
  simp only [kraft, List.length_cons]
  by_cases hx : 0 < x
  ·rw [if_pos hx]
   have := pow16 x hx h2.2
   push_cast; omega
  ·rw [if_neg hx]; push_cast; omega
theorem lensOk_parts {lens : List Int} (h : lensOkM lens = true) : lens.length ≤ 256 ∧ (∀ x ∈ lens, 0 ≤ x ∧ x ≤ 16) ∧ 1 ≤ kraft lens ∧ kraft lens ≤ 65536 := by
 unfold lensOkM at h
 simp only [Bool.and_eq_true, decide_eq_true_eq] at h
 exact ⟨h.1.1, allW_at h.1.2, h.2.1, h.2.2⟩
/-- how many of the first i symbols have length l -/
def cntL (lens : List Int) (l : Int) : Nat → Int
 | 0 => 0
 | i + 1 => cntL lens l i + if rd lens i = l then 1 else 0
theorem cntL_range (lens : List Int) (l : Int) (i : Nat) : 0 ≤ cntL lens l i ∧ cntL lens l i ≤ i := by
 induction i with
 | zero => simp [cntL]
 | succ i ih =>
  simp only [cntL]
  split <;> omega
theorem cntL_mono (lens : List Int) (l : Int) (i j : Nat) (h : i ≤ j) : cntL lens l i ≤ cntL lens l j := by
 induction j with
 | zero =>
  obtain rfl : i = 0 := by omega
  exact Int.le_refl _
 | succ j ih =>
  by_cases e : i = j + 1
  ·rw [e]; exact Int.le_refl _
  ·have := ih (by omega)
   simp only [cntL]
   split <;> omega
theorem cntL_lt (lens : List Int) (l : Int) (i j : Nat) (h : i < j) (hi : rd lens i = l) : cntL lens l i < cntL lens l j := by
 have h1 := cntL_mono lens l (i + 1) j h
 have h2 : cntL lens l (i + 1) = cntL lens l i + 1 := by simp only [cntL]; rw [if_pos hi]
 omega
/-- the code behind all of length l -/
def nextC (lens : List Int) : Nat → Int
 | 0 => 0
 | l + 1 => 2 * nextC lens l + cntL lens ((l + 1 : Nat) : Int) lens.length
theorem nextC_range (lens : List Int) (h : lens.length ≤ 256) (l : Nat) : 0 ≤ nextC lens l ∧ nextC lens l + 256 ≤ 256 * 2 ^ l := by
 induction l with
 | zero => simp [nextC]
 | succ l ih =>
  have := cntL_range lens ((l + 1 : Nat) : Int) lens.length
  simp only [nextC]
  rw [Int.pow_succ]
  omega
theorem nextC_in (lens : List Int) (h : lens.length ≤ 256) (l : Nat) (hl : l ≤ 16) : 0 ≤ nextC lens l ∧ nextC lens l ≤ 16777216 := by
 have h1 := nextC_range lens h l
 have h2 : (2 : Int) ^ l ≤ 65536 := by
  have h3 := Nat.pow_le_pow_right (n := 2) (by decide) hl
  have h4 : ((2 ^ l : Nat) : Int) ≤ ((2 ^ 16 : Nat) : Int) := Int.ofNat_le.2 h3
  rw [Int.natCast_pow] at h4
  simpa using h4
 omega
/-- the code of symbol s, of length l -/
def codeC (lens : List Int) (l : Nat) (s : Nat) : Int := 2 * nextC lens (l - 1) + cntL lens (l : Int) s
theorem codeC_next (lens : List Int) (l : Nat) (h : 1 ≤ l) : codeC lens l lens.length = nextC lens l := by
 obtain ⟨m, rfl⟩ : ∃ m, l = m + 1 := ⟨l - 1, by omega⟩
 simp [codeC, nextC]
theorem codeC_in (lens : List Int) (h : lens.length ≤ 256) (l s : Nat) (h1 : 1 ≤ l) (hl : l ≤ 17) (hs : s ≤ 256) : 0 ≤ codeC lens l s ∧ codeC lens l s ≤ 33554688 := by
 have h2 := nextC_in lens h (l - 1) (by omega)
 have h3 := cntL_range lens (l : Int) s
 unfold codeC
 omega
/-- the codes of all lengths below l, and of length l of the symbols below i -/
def codesP (lens : List Int) (l i : Nat) : List S124 :=
 (List.range lens.length).map fun (s : Nat) => if 1 ≤ rd lens s ∧ (rd lens s < l ∨ rd lens s = l ∧ s < i) then ⟨rd lens s, codeC lens (rd lens s).toNat s⟩ else z124
def codesM (lens : List Int) : List S124 := if lensOkM lens then codesP lens 17 0 else []
theorem codesP_length (lens : List Int) (l i : Nat) : (codesP lens l i).length = lens.length := by simp [codesP]
theorem codesP_start (lens : List Int) : codesP lens 1 0 = List.replicate lens.length z124 := by
 apply List.ext_getElem
 ·simp [codesP_length]
 ·intro s h1 h2
  simp only [codesP, List.getElem_map, List.getElem_range, List.getElem_replicate]
  rw [if_neg (by omega)]
theorem codesP_set (lens : List Int) (l i : Nat) (h1 : 1 ≤ l) (hi : i < lens.length) (he : rd lens i = l) : (codesP lens l i).set i ⟨(l : Int), codeC lens l i⟩ = codesP lens l (i + 1) := by
 apply List.ext_getElem
 ·simp [codesP_length]
 ·intro s h2 h3
  rw [List.getElem_set]
  simp only [codesP, List.getElem_map, List.getElem_range]
  by_cases e : i = s
  ·subst e
   rw [if_pos rfl, if_pos (by omega), he, Int.toNat_natCast]
  ·rw [if_neg e]
   by_cases hc : 1 ≤ rd lens s ∧ (rd lens s < l ∨ rd lens s = l ∧ s < i)
   ·rw [if_pos hc, if_pos (by omega)]
   ·rw [if_neg hc, if_neg (by omega)]
theorem codesP_skip (lens : List Int) (l i : Nat) (he : rd lens i ≠ l) : codesP lens l i = codesP lens l (i + 1) := by
 apply List.ext_getElem
 ·simp [codesP_length]
 ·intro s h2 h3
  simp only [codesP, List.getElem_map, List.getElem_range]
  by_cases e : i = s
  ·subst e
   by_cases hc : 1 ≤ rd lens i ∧ (rd lens i < l ∨ rd lens i = l ∧ i < i)
   ·rw [if_pos hc, if_pos (by omega)]
   ·rw [if_neg hc, if_neg (by omega)]
  ·by_cases hc : 1 ≤ rd lens s ∧ (rd lens s < l ∨ rd lens s = l ∧ s < i)
   ·rw [if_pos hc, if_pos (by omega)]
   ·rw [if_neg hc, if_neg (by omega)]
theorem codesP_up (lens : List Int) (l : Nat) : codesP lens l lens.length = codesP lens (l + 1) 0 := by
 apply List.ext_getElem
 ·simp [codesP_length]
 ·intro s h2 h3
  have hs : s < lens.length := by simpa [codesP_length] using h2
  simp only [codesP, List.getElem_map, List.getElem_range]
  by_cases hc : 1 ≤ rd lens s ∧ (rd lens s < l ∨ rd lens s = l ∧ s < lens.length)
  ·rw [if_pos hc, if_pos (by omega)]
  ·rw [if_neg hc, if_neg (by omega)]
theorem codeC_skip (lens : List Int) (l i : Nat) (he : rd lens i ≠ l) : codeC lens l (i + 1) = codeC lens l i := by
 unfold codeC; simp only [cntL]; rw [if_neg he]; omega
theorem codeC_step (lens : List Int) (l i : Nat) (he : rd lens i = l) : codeC lens l (i + 1) = codeC lens l i + 1 := by
 unfold codeC; simp only [cntL]; rw [if_pos he]; omega
theorem codeC_first (lens : List Int) (l : Nat) : codeC lens l 0 = nextC lens (l - 1) * 2 := by
 unfold codeC; simp only [cntL]; omega
/-- the first of the first n symbols with this code -/
def firstS (codes : List S124) (a b : Int) : Nat → Option Nat
 | 0 => none
 | n + 1 => match firstS codes a b n with
  | some s => some s
  | none => if (codes.getD n z124).f0 = a ∧ (codes.getD n z124).f1 = b then some n else none
/-- the last of them -/
def lastS (codes : List S124) (a b : Int) : Nat → Option Nat
 | 0 => none
 | n + 1 => if (codes.getD n z124).f0 = a ∧ (codes.getD n z124).f1 = b then some n else lastS codes a b n
theorem firstS_some {codes : List S124} {a b : Int} {n s : Nat} (h : firstS codes a b n = some s) : s < n ∧ (codes.getD s z124).f0 = a ∧ (codes.getD s z124).f1 = b := by
 induction n with
 | zero => simp [firstS] at h
 | succ n ih =>
  simp only [firstS] at h
  split at h
  ·rename_i t ht
   cases h
   have := ih ht
   exact ⟨by omega, this.2⟩
  ·split at h
   ·rename_i hc
    cases h
    exact ⟨by omega, hc⟩
   ·cases h
theorem firstS_none {codes : List S124} {a b : Int} {n : Nat} (h : firstS codes a b n = none) : ∀ s, s < n → ¬ ((codes.getD s z124).f0 = a ∧ (codes.getD s z124).f1 = b) := by
 induction n with
 | zero => intro s hs; omega
 | succ n ih =>
  simp only [firstS] at h
  split at h
  ·cases h
  ·rename_i hn
   split at h
   ·cases h
   ·rename_i hc
    intro s hs
    by_cases e : s = n
    ·rw [e]; exact hc
    ·exact ih hn s (by omega)
/-- codes tell their symbols apart -/
def Apart (codes : List S124) : Prop := ∀ s t, s < t → t < codes.length → 1 ≤ (codes.getD s z124).f0 → (codes.getD s z124).f0 = (codes.getD t z124).f0 → (codes.getD s z124).f1 ≠ (codes.getD t z124).f1
theorem last_first {codes : List S124} (hA : Apart codes) (a b : Int) (ha : 1 ≤ a) : ∀ n, n ≤ codes.length → lastS codes a b n = firstS codes a b n := by
 intro n
 induction n with
 | zero => intro _; rfl
 | succ n ih =>
  intro hn
  simp only [lastS, firstS]
  rw [ih (by omega)]
  cases hf : firstS codes a b n with
  | none => rfl
  | some s =>
   have h := firstS_some hf
   rw [if_neg]
   intro hc
   exact hA s n h.1 (by omega) (by rw [h.2.1]; exact ha) (by rw [h.2.1, hc.1]) (by rw [h.2.2, hc.2])
theorem codesP_at (lens : List Int) (l i s : Nat) (hs : s < lens.length) : (codesP lens l i).getD s z124 = if 1 ≤ rd lens s ∧ (rd lens s < l ∨ rd lens s = l ∧ s < i) then ⟨rd lens s, codeC lens (rd lens s).toNat s⟩ else z124 := by
 rw [List.getD_eq_getElem?_getD, List.getElem?_eq_getElem (by rw [codesP_length]; exact hs)]
 simp only [codesP, List.getElem_map, List.getElem_range, Option.getD_some]
theorem codesP_apart (lens : List Int) : Apart (codesP lens 17 0) := by
 intro s t hst ht h1 he hv
 rw [codesP_length] at ht
 rw [codesP_at lens 17 0 s (by omega)] at h1 he hv
 rw [codesP_at lens 17 0 t (by omega)] at he hv
 by_cases cs : 1 ≤ rd lens s ∧ (rd lens s < ((17 : Nat) : Int) ∨ rd lens s = ((17 : Nat) : Int) ∧ s < 0)
 ·rw [if_pos cs] at h1 he hv
  by_cases ct : 1 ≤ rd lens t ∧ (rd lens t < ((17 : Nat) : Int) ∨ rd lens t = ((17 : Nat) : Int) ∧ t < 0)
  ·rw [if_pos ct] at he hv
   simp only [] at he hv
   rw [← he] at hv
   have h2 := cntL_lt lens (rd lens s) s t hst rfl
   unfold codeC at hv
   rw [show (((rd lens s).toNat : Nat) : Int) = rd lens s by omega] at hv
   omega
  ·rw [if_neg ct] at he
   have : z124.f0 = 0 := rfl
   rw [this] at he
   omega
 ·rw [if_neg cs] at h1
  have : z124.f0 = 0 := rfl
  omega
/-- one symbol is read from bit p on: which, and the place behind its code -/
def symM (codes : List S124) (b : List Int) : Nat → Int → Int → Nat → Option (Nat × Nat)
 | 0, _, _, _ => none
 | n + 1, l, x, p => if p < 8 * b.length then (match firstS codes (l + 1) (2 * x + bitAt b p) codes.length with | some s => some (s, p + 1) | none => symM codes b n (l + 1) (2 * x + bitAt b p) (p + 1)) else none
def readM (codes : List S124) (b : List Int) : Nat → Nat → Option (List Int)
 | 0, _ => some []
 | n + 1, p => match symM codes b 16 0 0 p with
  | none => none
  | some (s, q) => (readM codes b n q).map ((s : Int) :: ·)
def codeReadM (lens b : List Int) (n : Int) : List Int × Bool := if lensOkM lens = true ∧ 0 ≤ n ∧ n ≤ 60000 then (match readM (codesM lens) b n.toNat 0 with | some r => (r, true) | none => ([], false)) else ([], false)
theorem codes_in (lens : List Int) (s : Nat) : 0 ≤ ((codesM lens).getD s z124).f0 ∧ ((codesM lens).getD s z124).f0 ≤ 16 ∧ 0 ≤ ((codesM lens).getD s z124).f1 ∧ ((codesM lens).getD s z124).f1 ≤ 33554688 := by
 have zz : z124.f0 = 0 ∧ z124.f1 = 0 := ⟨rfl, rfl⟩
 unfold codesM
 by_cases h : lensOkM lens = true
 ·rw [if_pos h]
  obtain ⟨hn, hx, _, _⟩ := lensOk_parts h
  by_cases hs : s < lens.length
  ·rw [codesP_at lens 17 0 s hs]
   split
   ·rename_i hc
    have := codeC_in lens hn (rd lens s).toNat s (by omega) (by omega) (by omega)
    have h2 := hx _ (List.getElem_mem hs)
    rw [← rd_nat lens s hs] at h2
    exact ⟨by simp only []; omega, by simp only []; omega, this.1, this.2⟩
   ·rw [zz.1, zz.2]; omega
  ·rw [List.getD_eq_getElem?_getD, List.getElem?_eq_none (by rw [codesP_length]; omega)]
   simp only [Option.getD_none]
   rw [zz.1, zz.2]; omega
 ·rw [if_neg h]
  simp only [List.getD_nil]
  rw [zz.1, zz.2]; omega
theorem codesM_length (lens : List Int) (h : lensOkM lens = true) : (codesM lens).length = lens.length ∧ 1 ≤ lens.length := by
 obtain ⟨hn, hx, hk, _⟩ := lensOk_parts h
 unfold codesM
 rw [if_pos h, codesP_length]
 refine ⟨rfl, ?_⟩
 cases lens with
 | nil => simp [kraft] at hk
 | cons x t => simp
theorem codesM_small (lens : List Int) : (codesM lens).length ≤ 256 := by
 by_cases h : lensOkM lens = true
 ·have := codesM_length lens h
  have := (lensOk_parts h).1
  omega
 ·unfold codesM; rw [if_neg h]; simp
theorem codesM_apart (lens : List Int) : Apart (codesM lens) := by
 unfold codesM
 split
 ·exact codesP_apart lens
 ·intro s t _ ht; simp at ht
end Go.Proofs.Ytcjjmfpkhhdmlaa.G


namespace Go.Proofs.Ytcjjmfpkhhdmlaa.G
open Go.RowKit Go.Proofs.YtcjjmfpkhhdmlaaW.PrintWords Go.Proofs.YtcjjmfpkhhdmlaaW.PrintLast Go.Proofs.YtcjjmfpkhhdmlaaW.PrintMore
attribute [local go_sem] max2_int min2_int max_two min_two max_three min_three max_four min_four   -- for this text's walks alone
mutual
def impl_LensOk.j0 : Nat → List Int → Bool → Option (Bool)
 | 0, _, _ => none
 | k + 1, x0, x13 => if x13 = true then (some false) else (impl_LensOk.l0 k 0 x0 (x0.length : Int) 0)
def impl_LensOk.l0 : Nat → Int → List Int → Int → Int → Option (Bool)
 | 0, _, _, _, _ => none
 | k + 1, x3, x14, x15, x16 => if x16 < x15 then (if 0 ≤ x16 then (if x16 < (x14.length : Int) then (if (rd x14 x16) > 0 then (if 0 ≤ (wrap64 (16 - (rd x14 x16))) then (impl_LensOk.l0 k (wrap64 (x3 + (shl .i64 1 (wrap64 (16 - (rd x14 x16)))))) x14 x15 (wrap64 (x16 + 1))) else (none)) else (impl_LensOk.l0 k x3 x14 x15 (wrap64 (x16 + 1)))) else (none)) else (none)) else ((impl_within.f x3 1 65536).bind fun t134 => (some t134))
end
def impl_LensOk.f (k : Nat) (l0 : List Int) : Option (Bool) := if (l0.length : Int) > 256 then (impl_LensOk.j0 k l0 true) else ((impl_allWithin.f k l0 0 16).bind fun t132 => (impl_LensOk.j0 k l0 (!t132)))
set_option maxHeartbeats 8000000 in
set_option maxRecDepth 100000 in
theorem impl_LensOk.calls (k : Nat) (A0 : Option Addr) (c0 : Nat) (l0 : List Int) (r : Bool) (w : World) (hr0 : Kd.C (Kd.int .i64) w A0 l0.length l0) (hc0 : l0.length ≤ c0) (h : impl_LensOk.f k l0 = some r) :
  Calls Try.prog 80 #[.slice A0 l0.length c0] w fun e w' => e = .returned (.bool r) ∧ Drawn0 w w' := by
 have HR0 := Aside0.mk hr0
 have HC0 := Aside0.mk hc0
 clear hr0 hc0
 have H : (if (l0.length : Int) > 256 then (impl_LensOk.j0 k l0 true) else ((impl_allWithin.f k l0 0 16).bind fun t132 => (impl_LensOk.j0 k l0 (!t132)))) = some r := h
 clear h
 have HC2 := Aside0.mk H
 clear H
 go_enter Try.func80, Try.ntmps80
 go_upto_region 1 with (fail)
 go_cut [13] (fun v13 wc => ∃ (kq : Nat) (x13_1 : Bool), v13 = .bool x13_1 ∧ Aside0 (impl_LensOk.j0 kq l0 x13_1 = some r) ∧ Aside0 (kq ≤ k) ∧ Drawn0 w wc)
 case first =>
  have H := HC2.out
  clear HC2
  by_cases c3 : (l0.length : Int) > 256
  ·rw [if_pos c3] at H
   have c3b0 : decide (256 < (l0.length : Int)) = true := decide_eq_true c3
   have c3b1 : decide (256 < l0.length) = true := decide_eq_true (by omega)
   clear c3
   (first | rw [c3b0] | (simp only [i64_w, i32_w]; rw [c3b0]) | skip)
   have H' := Aside0.mk H
   clear H
   go_wp2
   go_meet
   case rel => exact ⟨_, (true), (by first | rfl | (simp; done) | (simp [*]; done)), H', ⟨by first | omega | exact Nat.le_refl _⟩, by repeat (first | exact Drawn0.refl _ | apply Drawn0.step)⟩
  ·rw [if_neg c3] at H
   have c3b0 : decide (256 < (l0.length : Int)) = false := decide_eq_false c3
   have c3b1 : decide (256 < l0.length) = false := decide_eq_false (by omega)
   clear c3
   (first | rw [c3b0] | (simp only [i64_w, i32_w]; rw [c3b0]) | skip)
   replace H := Option.bind_eq_some_iff.mp H
   obtain ⟨t132, A40, H⟩ := H
   replace H : (impl_LensOk.j0 k l0 (!t132)) = some r := H
   have A4 := Aside0.mk A40
   clear A40
   have H' := Aside0.mk H
   clear H
   go_wp2_with (first | (go_at_call 94; (with_reducible refine (impl_allWithin.calls k _ _ l0 0 16 t132 _ ?side1 ?side2 A4.out).mono ?_); (case side1 => repeat (first | exact HR0.out | (with_reducible refine Kd.C_alloc ?_ _) | (with_reducible refine Kd.C_drewN ?_ _) | (with_reducible refine Kd.C_drew ?_))); (case side2 => exact HC0.out); rintro e w' ⟨rfl, ⟨nd, rfl⟩⟩))
   go_meet
   case rel => exact ⟨_, (!t132), (by first | rfl | (simp; done) | (simp [*]; done)), H', ⟨by first | omega | exact Nat.le_refl _⟩, by repeat (first | exact Drawn0.refl _ | apply Drawn0.step)⟩
 case rest =>
  clear HC2
  try clear p2
  try clear c3
  try clear c3b0
  try clear c3b1
  obtain ⟨kq, x13_1, rfl, HA, HJ1, ⟨mc1, rfl⟩⟩ := hcut
  cases kq with
  | zero => exact absurd HA.out (by simp [impl_LensOk.j0])
  | succ kj1 =>
   have H := HA.out
   clear HA
   simp only [impl_LensOk.j0] at H
   by_cases c5 : x13_1 = true
   ·subst c5
    have H1 : (some false) = some r := by rw [if_pos rfl] at H; exact H
    clear H
    have H := H1
    clear H1
    obtain rfl := Option.some.inj H
    go_wp2
    go_ret
    exact ⟨by first | rfl | (simp; done) | (simp [*]; done), by repeat (first | exact Drawn0.refl _ | apply Drawn0.step)⟩
   ·replace c5 := Bool.eq_false_iff.mpr c5
    subst c5
    have H1 : (impl_LensOk.l0 kj1 0 l0 (l0.length : Int) 0) = some r := by rw [if_neg (show ¬ (false = true) by decide)] at H; exact H
    clear H
    have H := H1
    clear H1
    have H' := Aside0.mk H
    clear H
    go_wp2
    go_loopg [3, 16] kj1 (fun kq v3 v16 w' => ∃ (x3_2 : Int) (x16_2 : Int), v3 = .int .i64 x3_2 ∧ v16 = .int .i64 x16_2 ∧ Aside0 (impl_LensOk.l0 kq x3_2 l0 (l0.length : Int) x16_2 = some r) ∧ Aside0 (kq ≤ kj1) ∧ Drawn0 w w')
    case atStart => exact ⟨(0), (0), (by first | rfl | (simp; done) | (simp [*]; done)), (by first | rfl | (simp; done) | (simp [*]; done)), H', ⟨Nat.le_refl _⟩, by repeat (first | exact Drawn0.refl _ | apply Drawn0.step)⟩
    case round =>
     clear H'
     try clear c1
     try clear p2
     try clear c3
     try clear c3b0
     try clear c3b1
     try clear c5
     try clear p2
     obtain ⟨x3_2, x16_2, rfl, rfl, HA, HK2, ⟨m2, rfl⟩⟩ := hrel
     cases gk with
     | zero => exact absurd HA.out (by simp [impl_LensOk.l0])
     | succ k2 =>
      have H := HA.out
      clear HA
      simp only [impl_LensOk.l0] at H
      by_cases c6 : x16_2 < (l0.length : Int)
      ·rw [if_pos c6] at H
       have c6b0 : decide (x16_2 < (l0.length : Int)) = true := decide_eq_true c6
       clear c6
       by_cases c7 : 0 ≤ x16_2
       ·rw [if_pos c7] at H
        have c7b0 : decide (0 ≤ x16_2) = true := decide_eq_true c7
        clear c7
        by_cases c8 : x16_2 < (l0.length : Int)
        ·rw [if_pos c8] at H
         have c8b0 : decide (x16_2 < (l0.length : Int)) = true := decide_eq_true c8
         clear c8
         by_cases c9 : (rd l0 x16_2) > 0
         ·rw [if_pos c9] at H
          have c9b0 : decide (0 < (rd l0 x16_2)) = true := decide_eq_true c9
          clear c9
          obtain ⟨ji10, hji10⟩ : ∃ j_ : Int, (wrap64 (16 - (rd l0 x16_2))) = j_ := ⟨_, rfl⟩
          replace H : (if 0 ≤ (ji10) then (impl_LensOk.l0 k2 (wrap64 (x3_2 + (shl .i64 1 (ji10)))) l0 (l0.length : Int) (wrap64 (x16_2 + 1))) else (none)) = some r := by first | (rw [hji10] at H; exact H) | (simp only [hji10] at H ⊢; exact H)
          have hji10w : (IntKind.i64.wrap (16 - (rd l0 x16_2))) = ji10 := (i64_w _).trans hji10
          by_cases c11 : 0 ≤ (ji10)
          ·rw [if_pos c11] at H
           have c11b0 := eq_true c11
           have c11b1 : decide (0 ≤ (ji10)) = true := decide_eq_true c11
           clear c11
           obtain ⟨ji12, hji12⟩ : ∃ j_ : Int, (shl .i64 1 (ji10)) = j_ := ⟨_, rfl⟩
           replace H : (impl_LensOk.l0 k2 (wrap64 (x3_2 + (ji12))) l0 (l0.length : Int) (wrap64 (x16_2 + 1))) = some r := by first | (rw [hji12] at H; exact H) | (simp only [hji12] at H ⊢; exact H)
           have hji12_ : (IntKind.i64.wrap (1 * 2 ^ min (ji10).toNat 64)) = ji12 := hji12
           have hji12z : (ji10) ≤ 64 → (IntKind.i64.wrap (1 * 2 ^ (ji10).toNat)) = ji12 := shl_small hji12
           have hji12u : (IntKind.i64.wrap (2 ^ min (ji10).toNat 64)) = ji12 := by have h_ := hji12_; rw [Int.one_mul] at h_; exact h_
           have hji12v : (ji10) ≤ 64 → (IntKind.i64.wrap (2 ^ (ji10).toNat)) = ji12 := fun hle_ => by have h_ := hji12z hle_; rw [Int.one_mul] at h_; exact h_
           have hji12y : (wrap64 (1 * 2 ^ min (ji10).toNat 64)) = ji12 := (i64_w _).symm.trans hji12_
           have hji12x : (ji10) ≤ 64 → (wrap64 (1 * 2 ^ (ji10).toNat)) = ji12 := fun h_ => (i64_w _).symm.trans (hji12z h_)
           have H' := Aside0.mk H
           clear H
           have p133 : 0 ≤ (x16_2 : Int) := of_decide_eq_true (by first | (with_reducible assumption) | assumption)
           have q133 : x16_2 < (l0.length : Int) := of_decide_eq_true (by first | (with_reducible assumption) | assumption)
           obtain ⟨ad133, e133, hx133_0⟩ := Kd.at_int HR0.out x16_2 p133 q133
           cases e133
           replace p133 := eq_true p133
           replace q133 := eq_true q133
           go_wp2
           go_roundg k2
           case measure => have := HJ1.out; have := HK2.out; omega
           case rel => exact ⟨(wrap64 (x3_2 + (ji12))), (wrap64 (x16_2 + 1)), (by first | rfl | (simp; done) | (simp only [← hji12] <;> (first | rfl | simp)) | (simp [*]; done)), (by first | rfl | (simp; done) | (simp [*]; done)), H', ⟨by have := HJ1.out; have := HK2.out; omega⟩, by repeat (first | exact Drawn0.refl _ | apply Drawn0.step)⟩
          ·rw [if_neg c11] at H
           exact absurd H (by simp)
         ·rw [if_neg c9] at H
          have c9b0 : decide (0 < (rd l0 x16_2)) = false := decide_eq_false c9
          clear c9
          have H' := Aside0.mk H
          clear H
          have p133 : 0 ≤ (x16_2 : Int) := of_decide_eq_true (by first | (with_reducible assumption) | assumption)
          have q133 : x16_2 < (l0.length : Int) := of_decide_eq_true (by first | (with_reducible assumption) | assumption)
          obtain ⟨ad133, e133, hx133_0⟩ := Kd.at_int HR0.out x16_2 p133 q133
          cases e133
          replace p133 := eq_true p133
          replace q133 := eq_true q133
          go_wp2
          go_roundg k2
          case measure => have := HJ1.out; have := HK2.out; omega
          case rel => exact ⟨(x3_2), (wrap64 (x16_2 + 1)), (by first | rfl | (simp; done) | (simp [*]; done)), (by first | rfl | (simp; done) | (simp [*]; done)), H', ⟨by have := HJ1.out; have := HK2.out; omega⟩, by repeat (first | exact Drawn0.refl _ | apply Drawn0.step)⟩
        ·rw [if_neg c8] at H
         exact absurd H (by simp)
       ·rw [if_neg c7] at H
        exact absurd H (by simp)
      ·rw [if_neg c6] at H
       have c6b0 : decide (x16_2 < (l0.length : Int)) = false := decide_eq_false c6
       clear c6
       replace H := Option.bind_eq_some_iff.mp H
       obtain ⟨t134, A130, H⟩ := H
       replace H : (some t134) = some r := H
       have A13 := Aside0.mk A130
       clear A130
       obtain rfl := Option.some.inj H
       go_wp2_with (first | ((with_reducible refine gate_callee (f := 81) rfl ?_); refine goesL_ (some 29) rfl rfl Try.func81 (by kernel_rfl) rfl #[.int .i64 x3_2, .int .i64 1, .int .i64 65536] rfl (by (try simp only [List.map_toArray, List.map_cons, List.map_nil]); first | done | rfl | (simp only [List.length_drop, List.length_take]; rfl)) ?_; (with_reducible refine (impl_within.calls x3_2 1 65536 t134 _ A13.out).mono ?_); rintro e w' ⟨rfl, ⟨nd, rfl⟩⟩; refine ⟨_, rfl, ?_⟩))
       go_ret
       exact ⟨by first | rfl | (simp; done) | (simp [*]; done), by repeat (first | exact Drawn0.refl _ | apply Drawn0.step)⟩
theorem impl_LensOk.ev (lens : List Int) (hl : lens.length ≤ 4611686018427387903) : Ev (fun k => impl_LensOk.f k lens) (lensOkM lens) := by
 unfold impl_LensOk.f lensOkM
 by_cases h1 : 256 < lens.length
 ·refine Ev.ip (by omega) (Ev.step (fun _ => by rw [impl_LensOk.j0]) (Ev.ip rfl (Ev.eq (Ev.now _) ?_)))
  rw [decide_eq_false (by omega)]; rfl
 refine Ev.ng (by omega) ?_
 obtain ⟨k, hk⟩ := impl_allWithin.ev 0 16 lens (by omega)
 refine Ev.bind (Ev.of (fun k => impl_allWithin.mono _ _ _ k) hk) ?_
 rw [decide_eq_true (show lens.length ≤ 256 by omega), Bool.true_and]
 cases ha : allW 0 16 lens with
 | false => exact Ev.step (fun _ => by rw [impl_LensOk.j0]) (Ev.ip (by decide) (Ev.eq (Ev.now _) (by simp)))
 | true =>
  have hx := allW_at ha
  refine Ev.step (fun _ => by rw [impl_LensOk.j0]) (Ev.ng (by decide) ?_)
  rw [Bool.true_and]
  have key : ∀ d i : Nat, ∀ s : Int, lens.length - i = d → i ≤ lens.length → 0 ≤ s → s + kraft (lens.drop i) = kraft lens → Ev (fun k => impl_LensOk.l0 k s lens (lens.length : Int) (i : Int)) (decide (1 ≤ kraft lens) && decide (kraft lens ≤ 65536)) := by
   intro d
   induction d with
   | zero =>
    intro i s hd hi _ hs
    refine Ev.step (fun _ => by rw [impl_LensOk.l0]) (Ev.ng (by omega) ?_)
    rw [List.drop_of_length_le (by omega)] at hs
    simp only [kraft, Int.add_zero] at hs
    rw [hs]
    exact Ev.bind (Ev.c (impl_within.val _ _ _)) (Ev.now _)
   | succ d ih =>
    intro i s hd hi h0 hs
    have hlt : i < lens.length := by omega
    have hxi := hx _ (List.getElem_mem hlt)
    have hkr := kraft_range lens hx
    have hkd := kraft_range (lens.drop (i + 1)) (fun x h => hx x (List.mem_of_mem_drop h))
    rw [List.drop_eq_getElem_cons hlt] at hs
    simp only [kraft] at hs
    refine Ev.step (fun _ => by rw [impl_LensOk.l0]) (Ev.ip (by omega) (Ev.ip (by omega) (Ev.ip (by omega) ?_)))
    rw [rd_nat lens i hlt, wrap_succ i (by omega)]
    by_cases hp : 0 < lens[i]
    ·have hpw := pow16 _ hp hxi.2
     rw [if_pos hp] at hs
     rw [wrap_in (16 - lens[i]) (by omega) (by omega), shl1 _ (by omega) (by omega), wrap_in _ (by omega) (by omega)]
     exact Ev.ip hp (Ev.ip (by omega) (ih (i + 1) _ (by omega) (by omega) (by omega) (by omega)))
    ·rw [if_neg hp] at hs
     exact Ev.ng hp (ih (i + 1) _ (by omega) (by omega) (by omega) (by omega))
  exact key _ 0 0 rfl (by omega) (by omega) (by simp)
end Go.Proofs.Ytcjjmfpkhhdmlaa.G


namespace Go.Proofs.Ytcjjmfpkhhdmlaa.G
open Go.RowKit Go.Proofs.YtcjjmfpkhhdmlaaW.PrintWords Go.Proofs.YtcjjmfpkhhdmlaaW.PrintLast Go.Proofs.YtcjjmfpkhhdmlaaW.PrintMore
attribute [local go_sem] max2_int min2_int max_two min_two max_three min_three max_four min_four   -- for this text's walks alone
mutual
def impl_CodesOf.l0 : Nat → List Int → List (S124) → Int → Int → Option ((List (S124)))
 | 0, _, _, _, _ => none
 | k + 1, x0, x3, x4, x5 => if x5 ≤ 16 then (impl_CodesOf.l1 k x0 x3 (wrap64 (x4 * 2)) x5 x0 (x0.length : Int) 0) else (some x3)
def impl_CodesOf.l1 : Nat → List Int → List (S124) → Int → Int → List Int → Int → Int → Option ((List (S124)))
 | 0, _, _, _, _, _, _, _ => none
 | k + 1, x0, x3, x4, x5, x20, x21, x22 => if x22 < x21 then (if 0 ≤ x22 then (if x22 < (x20.length : Int) then (if (rd x20 x22) = x5 then (if x22 < (x3.length : Int) then (impl_CodesOf.l1 k x0 (x3.set (x22 : Int).toNat (⟨x5, x4⟩ : S124)) (wrap64 (x4 + 1)) x5 x20 x21 (wrap64 (x22 + 1))) else (none)) else (impl_CodesOf.l1 k x0 x3 x4 x5 x20 x21 (wrap64 (x22 + 1)))) else (none)) else (none)) else (impl_CodesOf.l0 k x0 x3 x4 (wrap64 (x5 + 1)))
end
def impl_CodesOf.f (k : Nat) (l0 : List Int) : Option ((List (S124))) := (impl_LensOk.f k l0).bind fun t135 => (if t135 = true then (if 0 ≤ (l0.length : Int) then (if ((l0.length : Int) : Int).toNat ≤ 17592186044416 then (impl_CodesOf.l0 k l0 (List.replicate ((l0.length : Int) : Int).toNat z124) 0 1) else (none)) else (none)) else (some ([] : List (S124))))
set_option maxHeartbeats 8000000 in
set_option maxRecDepth 100000 in
theorem impl_CodesOf.calls (k : Nat) (A0 : Option Addr) (c0 : Nat) (l0 : List Int) (r : List (S124)) (w : World) (hr0 : Kd.C (Kd.int .i64) w A0 l0.length l0) (hc0 : l0.length ≤ c0) (h : impl_CodesOf.f k l0 = some r) :
  Calls Try.prog 120 #[.slice A0 l0.length c0] w fun e w' => ∃ v0_ : Value, e = .returned (v0_) ∧ Kd.R k124 124 w' w.heap.size (fun _ => True) v0_ r ∧ Below w.heap.size w w' := by
 have hu124 := Try.underlying124
 have HR0 := Aside0.mk hr0
 have HC0 := Aside0.mk hc0
 clear hr0 hc0
 have HB := Aside0.mk (Below.refl w.heap.size w)
 have H : ((impl_LensOk.f k l0).bind fun t135 => (if t135 = true then (if 0 ≤ (l0.length : Int) then (if ((l0.length : Int) : Int).toNat ≤ 17592186044416 then (impl_CodesOf.l0 k l0 (List.replicate ((l0.length : Int) : Int).toNat z124) 0 1) else (none)) else (none)) else (some ([] : List (S124))))) = some r := h
 clear h
 replace H := Option.bind_eq_some_iff.mp H
 obtain ⟨t135, A20, H⟩ := H
 replace H : (if t135 = true then (if 0 ≤ (l0.length : Int) then (if ((l0.length : Int) : Int).toNat ≤ 17592186044416 then (impl_CodesOf.l0 k l0 (List.replicate ((l0.length : Int) : Int).toNat z124) 0 1) else (none)) else (none)) else (some ([] : List (S124)))) = some r := H
 have A2 := Aside0.mk A20
 clear A20
 by_cases c3 : t135 = true
 ·subst c3
  have H1 : (if 0 ≤ (l0.length : Int) then (if ((l0.length : Int) : Int).toNat ≤ 17592186044416 then (impl_CodesOf.l0 k l0 (List.replicate ((l0.length : Int) : Int).toNat z124) 0 1) else (none)) else (none)) = some r := by rw [if_pos rfl] at H; exact H
  clear H
  have H := H1
  clear H1
  by_cases c4 : 0 ≤ (l0.length : Int)
  ·rw [if_pos c4] at H
   have c4b0 := eq_true c4
   have c4b1 : decide (0 ≤ (l0.length : Int)) = true := decide_eq_true c4
   clear c4
   by_cases c5 : ((l0.length : Int) : Int).toNat ≤ 17592186044416
   ·rw [if_pos c5] at H
    have c5b0 := eq_true c5
    have c5b1 : decide (((l0.length : Int) : Int).toNat ≤ 17592186044416) = true := decide_eq_true c5
    clear c5
    obtain ⟨y136, hy136⟩ : ∃ y_ : List (S124), y_ = (List.replicate ((l0.length : Int) : Int).toNat z124) := ⟨_, rfl⟩
    replace H : (impl_CodesOf.l0 k l0 y136 0 1) = some r := by first | (rw [hy136]; with_reducible exact H) | (have H2_ := (Option.bind_some _ _).symm.trans H; rw [hy136]; with_reducible exact H2_) | (have H2_ := (Option.bind_some _ _).symm.trans H; with_reducible exact H2_) | with_reducible exact H | (rw [hy136]; exact H) | exact H
    have Ny136 := Aside0.mk hy136
    clear hy136
    have H' := Aside0.mk H
    clear H
    go_enter Try.func120, Try.ntmps120
    go_wp2_with (first | ((with_reducible refine gate_callee (f := 80) rfl ?_); refine goesL_ (some 9) rfl rfl Try.func80 (by kernel_rfl) rfl #[.slice A0 l0.length c0] rfl (by (try simp only [List.map_toArray, List.map_cons, List.map_nil]); first | done | rfl | (simp only [List.length_drop, List.length_take]; rfl)) ?_; (with_reducible refine (impl_LensOk.calls k _ _ l0 true _ ?side1 ?side2 A2.out).mono ?_); (case side1 => repeat (first | exact HR0.out | (with_reducible refine Kd.C_alloc ?_ _) | (with_reducible refine Kd.C_drewN ?_ _) | (with_reducible refine Kd.C_drew ?_))); (case side2 => exact HC0.out); rintro e w' ⟨rfl, ⟨nd, rfl⟩⟩; refine ⟨_, rfl, ?_⟩) | ((with_reducible refine gate_dst (N := 13) rfl ?_); refine Kd.R_make k124 _ 124 rfl (N := 13) rfl 87 _ _ rfl (l0.length : Int) rfl rfl Try.underlying87 (.agg #[(.int .i64 0), (.int .i64 0)]) 16 info124 rfl (by decide) (by omega) z124 (ok := fun _ => True) (okp := fun _ => True) (k124_mkM _ _ _ z124 ) (fun _ hk => hk) trivial (of_decide_eq_true (by first | (with_reducible assumption) | assumption)) (Nat.le_trans (Nat.mul_le_mul_right _ (of_decide_eq_true (by first | (with_reducible assumption) | assumption) : (l0.length : Int).toNat ≤ 17592186044416)) (by omega)) (Below.refl _ _) (Nat.le_refl _) ?_; intro v137 w6 ho7 hb hg_ hnew_; clear hg_ hnew_; (first | rw [← Ny136.out] at ho7 | (simp only [Int.reduceToNat] at ho7; rw [← Ny136.out] at ho7)); have n0_ := Aside0.mk (Kd.R_lower ho7 (below_size (by repeat (first | (with_reducible first | exact HB.out | apply below_alloc | apply pw_below_drewN | apply below_drew1) | exact HB.out)))); have n1_ := Aside0.mk (below_step (by repeat (first | (with_reducible first | exact HB.out | apply below_alloc | apply pw_below_drewN | apply below_drew1) | exact HB.out)) hb); clear HB; have HO138 := n0_; have HB := n1_; clear n0_ n1_; clear hb ho7))
    go_loopg [4, 5] k (fun kq v4 v5 w' => ∃ (x3_1 : List (S124)) (x4_1 : Int) (x5_1 : Int), v4 = .int .i64 x4_1 ∧ v5 = .int .i64 x5_1 ∧ Aside0 (impl_CodesOf.l0 kq l0 x3_1 x4_1 x5_1 = some r) ∧ Aside0 (kq ≤ k) ∧ Aside0 (Kd.R k124 124 w' w.heap.size (fun _ => True) v137 x3_1) ∧ Aside0 (Below w.heap.size w w'))
    case atStart => exact ⟨(y136), (0), (1), (by first | rfl | (simp; done) | (simp [*]; done)), (by first | rfl | (simp; done) | (simp [*]; done)), H', ⟨Nat.le_refl _⟩, ⟨by (with_reducible repeat (first | apply Kd.R_alloc | apply Kd.R_drewN | apply Kd.R_drew)); exact HO138.out⟩, ⟨by repeat (first | (with_reducible first | exact HB.out | apply below_alloc | apply pw_below_drewN | apply below_drew1) | exact HB.out)⟩⟩
    case round =>
     clear H'
     try clear c1
     try clear p2
     try clear c3
     try clear c4
     try clear c4b0
     try clear c4b1
     try clear c5
     try clear c5b0
     try clear c5b1
     obtain ⟨x3_1, x4_1, x5_1, rfl, rfl, HA, HK1, HO_3, HB⟩ := hrel
     cases gk with
     | zero => exact absurd HA.out (by simp [impl_CodesOf.l0])
     | succ k1 =>
      have H := HA.out
      clear HA
      simp only [impl_CodesOf.l0] at H
      by_cases c8 : x5_1 ≤ 16
      ·rw [if_pos c8] at H
       have c8b0 : decide (x5_1 ≤ 16) = true := decide_eq_true c8
       clear c8
       have H' := Aside0.mk H
       clear H
       go_wp2
       go_loopg [4, 22] k1 (fun kq v4 v22 w' => ∃ (x3_2 : List (S124)) (x4_2 : Int) (x22_2 : Int), v4 = .int .i64 x4_2 ∧ v22 = .int .i64 x22_2 ∧ Aside0 (impl_CodesOf.l1 kq l0 x3_2 x4_2 x5_1 l0 (l0.length : Int) x22_2 = some r) ∧ Aside0 (kq ≤ k1) ∧ Aside0 (Kd.R k124 124 w' w.heap.size (fun _ => True) v137 x3_2) ∧ Aside0 (Below w.heap.size w w'))
       case atStart => exact ⟨(x3_1), (wrap64 (x4_1 * 2)), (0), (by first | rfl | (simp; done) | (simp [*]; done)), (by first | rfl | (simp; done) | (simp [*]; done)), H', ⟨Nat.le_refl _⟩, ⟨by (with_reducible repeat (first | apply Kd.R_alloc | apply Kd.R_drewN | apply Kd.R_drew)); exact HO_3.out⟩, ⟨by repeat (first | (with_reducible first | exact HB.out | apply below_alloc | apply pw_below_drewN | apply below_drew1) | exact HB.out)⟩⟩
       case round =>
        clear H'
        try clear c1
        try clear p2
        try clear c3
        try clear c4
        try clear c4b0
        try clear c4b1
        try clear c5
        try clear c5b0
        try clear c5b1
        try clear p6
        try clear c8
        try clear c8b0
        try clear p2
        obtain ⟨x3_2, x4_2, x22_2, rfl, rfl, HA, HK2, HO_3, HB⟩ := hrel
        cases gk with
        | zero => exact absurd HA.out (by simp [impl_CodesOf.l1])
        | succ k2 =>
         have H := HA.out
         clear HA
         simp only [impl_CodesOf.l1] at H
         by_cases c9 : x22_2 < (l0.length : Int)
         ·rw [if_pos c9] at H
          have c9b0 : decide (x22_2 < (l0.length : Int)) = true := decide_eq_true c9
          clear c9
          by_cases c10 : 0 ≤ x22_2
          ·rw [if_pos c10] at H
           have c10b0 : decide (0 ≤ x22_2) = true := decide_eq_true c10
           clear c10
           by_cases c11 : x22_2 < (l0.length : Int)
           ·rw [if_pos c11] at H
            have c11b0 : decide (x22_2 < (l0.length : Int)) = true := decide_eq_true c11
            clear c11
            by_cases c12 : (rd l0 x22_2) = x5_1
            ·rw [if_pos c12] at H
             have c12b0 : ((rd l0 x22_2) == x5_1) = true := beq_iff_eq.mpr c12
             have c12b1 : ((rd l0 x22_2) != x5_1) = false := bne_eq_false_iff_eq.mpr c12
             clear c12
             by_cases c13 : x22_2 < (x3_2.length : Int)
             ·rw [if_pos c13] at H
              have c13b0 : decide (x22_2 < (x3_2.length : Int)) = true := decide_eq_true c13
              clear c13
              obtain ⟨y140, hy140⟩ : ∃ y_ : List (S124), y_ = (x3_2.set (x22_2 : Int).toNat (⟨x5_1, x4_2⟩ : S124)) := ⟨_, rfl⟩
              replace H : (impl_CodesOf.l1 k2 l0 y140 (wrap64 (x4_2 + 1)) x5_1 l0 (l0.length : Int) (wrap64 (x22_2 + 1))) = some r := by first | (rw [hy140]; with_reducible exact H) | (have H2_ := (Option.bind_some _ _).symm.trans H; rw [hy140]; with_reducible exact H2_) | (have H2_ := (Option.bind_some _ _).symm.trans H; with_reducible exact H2_) | with_reducible exact H | (rw [hy140]; exact H) | exact H
              have Ny140 := Aside0.mk hy140
              clear hy140
              have H' := Aside0.mk H
              clear H
              have p139 : 0 ≤ (x22_2 : Int) := of_decide_eq_true (by first | (with_reducible assumption) | assumption)
              have q139 : x22_2 < (l0.length : Int) := of_decide_eq_true (by first | (with_reducible assumption) | assumption)
              obtain ⟨ad139, e139, hx139_0⟩ := Kd.at_int HR0.out x22_2 p139 q139
              cases e139
              replace hx139_0 := (HB.out.cell (World.block_lt_of_cell? w _ hx139_0)).trans hx139_0
              replace p139 := eq_true p139
              replace q139 := eq_true q139
              have p14 : 0 ≤ (x22_2 : Int) := of_decide_eq_true (by first | (with_reducible assumption) | assumption)
              have q14 : (x22_2 : Int) < ((x3_2.length : Int) : Int) := of_decide_eq_true (by first | (with_reducible assumption) | assumption)
              obtain ⟨go14, co14, eo14, gb14, gl14, cl14, HG14⟩ := Kd.R_form HO_3.out (by omega)
              (first | cases eo14 | (injection eo14 with ea_ en_ ec_; (first | subst ea_ | (injection ea_ with ea_; subst ea_)); subst ec_; clear en_))
              have GB14 := Aside0.mk gb14
              have GG14 := Aside0.mk HG14
              clear gb14 gl14 HG14
              obtain ⟨ce14, hcl14, hM14, hcc14, hfr14⟩ := Kd.R_elem HO_3.out z124 (x22_2 : Int) p14 q14
              obtain rfl := k124_openM hM14
              have hx14_0 : wr.cell? ⟨go14, (x22_2 : Int).toNat * 2, none⟩ = some (.int .i64 ((rd_T124 x3_2 x22_2).f0)) := hcc14 0 _ rfl
              have hx14_1 : wr.cell? ⟨go14, (x22_2 : Int).toNat * 2 + 1, none⟩ = some (.int .i64 ((rd_T124 x3_2 x22_2).f1)) := hcc14 1 _ rfl
              have hf14_0 : wr.frozen? ⟨go14, (x22_2 : Int).toNat * 2, none⟩ = false := hfr14 0
              have hf14_1 : wr.frozen? ⟨go14, (x22_2 : Int).toNat * 2 + 1, none⟩ = false := hfr14 1
              clear hcl14 hcc14 hfr14; (try clear hM14)
              replace p14 := eq_true p14
              replace q14 := eq_true q14
              have HX15 := Aside0.mk (show Kd.R k124 124 wr w.heap.size (fun _ => True) (.slice (some ⟨go14, 0, none⟩) x3_2.length co14) x3_2 from (by (with_reducible repeat (first | apply Kd.R_alloc | apply Kd.R_drewN | apply Kd.R_drew)); exact HO_3.out))
              obtain ⟨ce15, hcl15, hM15, hcc15, hfr15⟩ := Kd.R_elem HX15.out z124 (x22_2 : Int) (of_decide_eq_true (by first | (with_reducible assumption) | assumption)) (by have h_ : (x22_2 : Int) < ((x3_2.length : Int) : Int) := of_decide_eq_true (by first | (with_reducible assumption) | assumption); first | exact h_ | (have e_ := (Kd.R_reads' HO_3.out).1; omega) | simpa using h_)
              obtain rfl := k124_openM hM15
              have HP15 := Kd.R_seg HX15.out (x22_2 : Int) (of_decide_eq_true (by first | (with_reducible assumption) | assumption)) (by have h_ : (x22_2 : Int) < ((x3_2.length : Int) : Int) := of_decide_eq_true (by first | (with_reducible assumption) | assumption); first | exact h_ | (have e_ := (Kd.R_reads' HO_3.out).1; omega) | simpa using h_) (seg := [.int .i64 x5_1, .int .i64 x4_2]) (j := 0) hcl15 hcc15 (show 2 ≤ 2 from by decide) (x' := (⟨x5_1, x4_2⟩ : S124)) (k124_mkM _ _ _ (⟨x5_1, x4_2⟩ : S124) ) (fun _ hk => hk)
              have hx15_0 := hcc15 0 _ rfl
              (try simp only [show (k124).sz = 2 from rfl, Nat.mul_one, Nat.add_zero] at hx15_0)
              have hf15_0 := hfr15 0
              (try simp only [show (k124).sz = 2 from rfl, Nat.mul_one, Nat.add_zero] at hf15_0)
              have hx15_1 := hcc15 1 _ rfl
              (try simp only [show (k124).sz = 2 from rfl, Nat.mul_one, Nat.add_zero] at hx15_1)
              have hf15_1 := hfr15 1
              (try simp only [show (k124).sz = 2 from rfl, Nat.mul_one, Nat.add_zero] at hf15_1)
              clear hcl15 hcc15 hfr15; (try clear hM15)
              go_wp2_with (first | ((with_reducible refine gate_store (t := 124) (p := 35) rfl ?_); refine store_event (t := 124) (p := 35) (v := ?vo_w16) (w1 := ((wr.setCell ⟨go14, (x22_2 : Int).toNat * 2, none⟩ (.int .i64 x5_1)).setCell ⟨go14, (x22_2 : Int).toNat * 2 + 1, none⟩ (.int .i64 x4_2))) ?hg ?ho ?hn ?hr ?_; (case ho => rfl); (case hg => rfl); (case hn => rfl); (case hr => first | (go_simp; done) | (go_simp; rfl)); intro w16 hw; have hg : wr.grownBy w16 (some go14) := (by rw [hw]; exact HP15.2); have hp_ : Kd.R k124 124 w16 w.heap.size (fun _ => True) (.slice (some ⟨go14, 0, none⟩) x3_2.length co14) y140 := (by rw [hw, Ny140.out]; exact HP15.1); clear HP15; have n0_ := Aside0.mk (hp_); have n1_ := Aside0.mk ((by rw [hw]; exact below_set (below_set (HB.out) GB14.out) GB14.out : Below w.heap.size w w16)); clear HO_3; clear HB; have HO_3 := n0_; have HB := n1_; clear n0_ n1_; clear hg hw hp_))
              go_roundg k2
              case measure => have := HK1.out; have := HK2.out; omega
              case rel => exact ⟨(y140), (wrap64 (x4_2 + 1)), (wrap64 (x22_2 + 1)), (by first | rfl | (simp; done) | (simp [*]; done)), (by first | rfl | (simp; done) | (simp [*]; done)), H', ⟨by have := HK1.out; have := HK2.out; omega⟩, ⟨by (with_reducible repeat (first | apply Kd.R_alloc | apply Kd.R_drewN | apply Kd.R_drew)); exact HO_3.out⟩, ⟨by repeat (first | (with_reducible first | exact HB.out | apply below_alloc | apply pw_below_drewN | apply below_drew1) | exact HB.out)⟩⟩
             ·rw [if_neg c13] at H
              exact absurd H (by simp)
            ·rw [if_neg c12] at H
             have c12b0 : ((rd l0 x22_2) == x5_1) = false := beq_eq_false_iff_ne.mpr c12
             have c12b1 : ((rd l0 x22_2) != x5_1) = true := bne_iff_ne.mpr c12
             have H' := Aside0.mk H
             clear H
             have p139 : 0 ≤ (x22_2 : Int) := of_decide_eq_true (by first | (with_reducible assumption) | assumption)
             have q139 : x22_2 < (l0.length : Int) := of_decide_eq_true (by first | (with_reducible assumption) | assumption)
             obtain ⟨ad139, e139, hx139_0⟩ := Kd.at_int HR0.out x22_2 p139 q139
             cases e139
             replace hx139_0 := (HB.out.cell (World.block_lt_of_cell? w _ hx139_0)).trans hx139_0
             replace p139 := eq_true p139
             replace q139 := eq_true q139
             go_wp2
             go_roundg k2
             case measure => have := HK1.out; have := HK2.out; omega
             case rel => exact ⟨(x3_2), (x4_2), (wrap64 (x22_2 + 1)), (by first | rfl | (simp; done) | (simp [*]; done)), (by first | rfl | (simp; done) | (simp [*]; done)), H', ⟨by have := HK1.out; have := HK2.out; omega⟩, ⟨by (with_reducible repeat (first | apply Kd.R_alloc | apply Kd.R_drewN | apply Kd.R_drew)); exact HO_3.out⟩, ⟨by repeat (first | (with_reducible first | exact HB.out | apply below_alloc | apply pw_below_drewN | apply below_drew1) | exact HB.out)⟩⟩
           ·rw [if_neg c11] at H
            exact absurd H (by simp)
          ·rw [if_neg c10] at H
           exact absurd H (by simp)
         ·rw [if_neg c9] at H
          have c9b0 : decide (x22_2 < (l0.length : Int)) = false := decide_eq_false c9
          clear c9
          have H' := Aside0.mk H
          clear H
          go_wp2
          go_roundg k2
          case measure => have := HK1.out; have := HK2.out; omega
          case rel => exact ⟨(x3_2), (x4_2), (wrap64 (x5_1 + 1)), (by first | rfl | (simp; done) | (simp [*]; done)), (by first | rfl | (simp; done) | (simp [*]; done)), H', ⟨by have := HK1.out; have := HK2.out; omega⟩, ⟨by (with_reducible repeat (first | apply Kd.R_alloc | apply Kd.R_drewN | apply Kd.R_drew)); exact HO_3.out⟩, ⟨by repeat (first | (with_reducible first | exact HB.out | apply below_alloc | apply pw_below_drewN | apply below_drew1) | exact HB.out)⟩⟩
      ·rw [if_neg c8] at H
       have c8b0 : decide (x5_1 ≤ 16) = false := decide_eq_false c8
       clear c8
       obtain rfl := Option.some.inj H
       go_wp2
       go_ret
       exact ⟨_, by first | rfl | (simp [errW_none, errW_some] <;> rfl) | (simp [*, errW_none, errW_some] <;> rfl), by (with_reducible repeat (first | apply Kd.R_alloc | apply Kd.R_drewN | apply Kd.R_drew)); exact HO_3.out, by repeat (first | (with_reducible first | exact HB.out | apply below_alloc | apply pw_below_drewN | apply below_drew1) | exact HB.out)⟩
   ·rw [if_neg c5] at H
    exact absurd H (by simp)
  ·rw [if_neg c4] at H
   exact absurd H (by simp)
 ·replace c3 := Bool.eq_false_iff.mpr c3
  subst c3
  have H1 : (some ([] : List (S124))) = some r := by rw [if_neg (show ¬ (false = true) by decide)] at H; exact H
  clear H
  have H := H1
  clear H1
  obtain rfl := Option.some.inj H
  go_enter Try.func120, Try.ntmps120
  go_wp2_with (first | ((with_reducible refine gate_callee (f := 80) rfl ?_); refine goesL_ (some 9) rfl rfl Try.func80 (by kernel_rfl) rfl #[.slice A0 l0.length c0] rfl (by (try simp only [List.map_toArray, List.map_cons, List.map_nil]); first | done | rfl | (simp only [List.length_drop, List.length_take]; rfl)) ?_; (with_reducible refine (impl_LensOk.calls k _ _ l0 false _ ?side1 ?side2 A2.out).mono ?_); (case side1 => repeat (first | exact HR0.out | (with_reducible refine Kd.C_alloc ?_ _) | (with_reducible refine Kd.C_drewN ?_ _) | (with_reducible refine Kd.C_drew ?_))); (case side2 => exact HC0.out); rintro e w' ⟨rfl, ⟨nd, rfl⟩⟩; refine ⟨_, rfl, ?_⟩))
  go_ret
  exact ⟨_, by first | rfl | (simp [errW_none, errW_some] <;> rfl) | (simp [*, errW_none, errW_some] <;> rfl), by first | exact Kd.R_nil _ _ _ _ _ | exact Kd.N_nil _ _ _ _ _ | exact Kd.V_nil _ _ _ _ _ | exact Kd.Q_nil _ _ _ _ _ | exact Kd.S_nil _ _ _ _ _, by repeat (first | (with_reducible first | exact HB.out | apply below_alloc | apply pw_below_drewN | apply below_drew1) | exact HB.out)⟩
theorem impl_CodesOf.ev (lens : List Int) (hl : lens.length ≤ 4611686018427387903) : Ev (fun k => impl_CodesOf.f k lens) (codesM lens) := by
 unfold impl_CodesOf.f codesM
 refine Ev.bind (impl_LensOk.ev lens hl) ?_
 cases hok : lensOkM lens with
 | false => exact Ev.ng (by decide) (Ev.now _)
 | true =>
  obtain ⟨hn, hx, _, _⟩ := lensOk_parts hok
  refine Ev.ip rfl (Ev.ip (by omega) (Ev.ip (by omega) ?_))
  rw [if_pos rfl, Int.toNat_natCast, ← codesP_start]
  have outer : ∀ e l : Nat, 17 - l = e → 1 ≤ l → l ≤ 17 → Ev (fun k => impl_CodesOf.l0 k lens (codesP lens l 0) (nextC lens (l - 1)) (l : Int)) (codesP lens 17 0) := by
   intro e
   induction e with
   | zero =>
    intro l he h1 h2
    obtain rfl : l = 17 := by omega
    exact Ev.step (fun _ => by rw [impl_CodesOf.l0]) (Ev.ng (by omega) (Ev.now _))
   | succ e ihe =>
    intro l he h1 h2
    refine Ev.step (fun _ => by rw [impl_CodesOf.l0]) (Ev.ip (by omega) ?_)
    have hnx := nextC_in lens hn (l - 1) (by omega)
    rw [wrap_in (nextC lens (l - 1) * 2) (by omega) (by omega), ← codeC_first]
    have inner : ∀ d i : Nat, lens.length - i = d → i ≤ lens.length → Ev (fun k => impl_CodesOf.l1 k lens (codesP lens l i) (codeC lens l i) (l : Int) lens (lens.length : Int) (i : Int)) (codesP lens 17 0) := by
     intro d
     induction d with
     | zero =>
      intro i hd hi
      obtain rfl : i = lens.length := by omega
      refine Ev.step (fun _ => by rw [impl_CodesOf.l1]) (Ev.ng (by omega) ?_)
      have := ihe (l + 1) (by omega) (by omega) (by omega)
      rw [codesP_up, codeC_next lens l h1, wrap_succ l (by omega)]
      exact this
     | succ d ih =>
      intro i hd hi
      have hlt : i < lens.length := by omega
      have hci := codeC_in lens hn l i h1 (by omega) (by omega)
      refine Ev.step (fun _ => by rw [impl_CodesOf.l1]) (Ev.ip (by omega) (Ev.ip (by omega) (Ev.ip (by omega) ?_)))
      rw [wrap_succ i (by omega)]
      by_cases he : rd lens (i : Int) = (l : Int)
      ·refine Ev.ip he (Ev.ip (by rw [codesP_length]; omega) ?_)
       rw [Int.toNat_natCast, codesP_set lens l i h1 hlt he, wrap_in _ (by omega) (by omega), ← codeC_step lens l i he]
       exact ih (i + 1) (by omega) (by omega)
      ·refine Ev.ng he ?_
       rw [codesP_skip lens l i he, ← codeC_skip lens l i he]
       exact ih (i + 1) (by omega) (by omega)
    exact inner _ 0 rfl (by omega)
  have := outer _ 1 rfl (by omega) (by omega)
  exact this
end Go.Proofs.Ytcjjmfpkhhdmlaa.G


namespace Go.Proofs.Ytcjjmfpkhhdmlaa.G
open Go.RowKit Go.Proofs.YtcjjmfpkhhdmlaaW.PrintWords Go.Proofs.YtcjjmfpkhhdmlaaW.PrintLast Go.Proofs.YtcjjmfpkhhdmlaaW.PrintMore
attribute [local go_sem] max2_int min2_int max_two min_two max_three min_three max_four min_four   -- for this text's walks alone
--import Derived.Maps.OwnSet
--import Derived.Maps.Own
--import Derived.DeepKeys4
--import Derived.BigRegion
section
open Go.Maps
theorem dlaid : laidOutB Try.prog = true := by kernel_rfl
theorem dwide : (match Try.prog.underlying 124 with | some (.array _ _) | some (.struct _) => true | _ => false) = true := by kernel_rfl
theorem drow : (124 : TypeId) < Try.prog.types.size := of_decide_eq_true (by kernel_rfl)
set_option maxRecDepth 100000 in
theorem dlaw : Keyed Try.prog 124 := Keyed.of_law (deep_law_laid dlaid (m := 3) (by omega) drow (by kernel_rfl) dwide)
theorem dzero (w : World) : (zeroValue 3).run Try.prog w = .ok (.int .i64 0) w := by kernel_rfl
theorem dcells : Try.prog.cellsOf 124 = 2 := by kernel_rfl
theorem dcell1 : Try.prog.cellsOf 3 = 1 := by kernel_rfl
theorem dkey : Try.prog.keyType 124 = true := by kernel_rfl
/-- what a code reads as -/
def keyF (a b : Int) : Lit := .string (keyBytes [.int .i64 a, .int .i64 b])
theorem keyF_of (a b : Int) (ha : (Lit.int .i64 a).wf = true) (hb : (Lit.int .i64 b).wf = true) : keyOf Try.prog 124 (.agg #[.int .i64 a, .int .i64 b]) = some (keyF a b) := by
 have h1 : (Value.agg #[.int .i64 a, .int .i64 b]).formed Try.prog 124 = true := by
  simp [Value.formed, Try.underlying124, dcells]
 have h2 : ∀ m, Try.prog.keyLits (m + 2) 124 [.int .i64 a, .int .i64 b] = some [.int .i64 a, .int .i64 b] := by
  intro m
  unfold Program.keyLits
  rw [Try.underlying124]
  simp [dcells, dcell1, Program.keyLits, Try.underlying3, ha, hb]
 obtain ⟨m, hm⟩ : ∃ m, Try.prog.types.size + 1 = m + 2 := ⟨Try.prog.types.size - 1, by have h : @LT.lt Nat _ 124 Try.prog.types.size := drow; omega⟩
 unfold keyOf
 rw [Try.underlying124]
 simp only [dkey, h1, Bool.and_self, if_true]
 rw [hm, show (Value.agg #[.int .i64 a, .int .i64 b]).cells.toList = [.int .i64 a, .int .i64 b] from rfl, h2 m]
 rfl
theorem keyF_inj {a b c d : Int} (ha : (Lit.int .i64 a).wf = true) (hb : (Lit.int .i64 b).wf = true) (hc : (Lit.int .i64 c).wf = true) (hd : (Lit.int .i64 d).wf = true) (h : keyF a b = keyF c d) : a = c ∧ b = d := by
 have := dlaw.inj (keyF_of a b ha hb) (h ▸ keyF_of c d hc hd)
 simpa using this
/-- what the map tells of codes of a length above 0: the last of the first n symbols that has it -/
def KnowsD (codes : List S124) (n : Nat) (D : DataW Unit) : Prop :=
 IsMap D ∧ ∀ a b : Int, 1 ≤ a → (Lit.int .i64 a).wf = true → (Lit.int .i64 b).wf = true → Maps.has D (keyF a b) = (lastS codes a b n).isSome ∧ ∀ s, lastS codes a b n = some s → D.atKey (keyF a b) (.lit (.int .i64 0)) = .lit (.int .i64 (s : Int))
theorem knows_start (codes : List S124) : KnowsD codes 0 (.map []) := ⟨isMap_empty, fun a b _ _ _ => ⟨rfl, fun s h => by simp [lastS] at h⟩⟩
theorem knows_skip {codes : List S124} {n : Nat} {D : DataW Unit} (h : KnowsD codes n D) (h0 : (codes.getD n z124).f0 ≤ 0) : KnowsD codes (n + 1) D := by
 refine ⟨h.1, fun a b ha wa wb => ?_⟩
 have e : lastS codes a b (n + 1) = lastS codes a b n := by
  simp only [lastS]; rw [if_neg (fun hc => by omega)]
 rw [e]
 exact h.2 a b ha wa wb
theorem knows_put {codes : List S124} {n : Nat} {D : DataW Unit} (h : KnowsD codes n D) (a0 b0 : Int) (ea : (codes.getD n z124).f0 = a0) (eb : (codes.getD n z124).f1 = b0) (w0 : (Lit.int .i64 a0).wf = true) (w1 : (Lit.int .i64 b0).wf = true) :
  KnowsD codes (n + 1) (D.put (keyF a0 b0) (.lit (.int .i64 (n : Int)))) := by
 refine ⟨h.1.put _ _, fun a b ha wa wb => ?_⟩
 by_cases hc : a0 = a ∧ b0 = b
 ·obtain ⟨rfl, rfl⟩ := hc
  have e : lastS codes a0 b0 (n + 1) = some n := by simp only [lastS]; rw [if_pos ⟨ea, eb⟩]
  rw [e]
  refine ⟨has_put_same h.1 (dlaw.key (keyF_of a0 b0 w0 w1)) _, fun s hs => ?_⟩
  cases hs
  exact atKey_put_same h.1 (dlaw.key (keyF_of a0 b0 w0 w1)) _ _
 ·have e : lastS codes a b (n + 1) = lastS codes a b n := by simp only [lastS]; rw [if_neg (by rw [ea, eb]; exact hc)]
  have hne : keyF a b ≠ keyF a0 b0 := fun hk => by
   have := keyF_inj wa wb w0 w1 hk
   exact hc ⟨this.1.symm, this.2.symm⟩
  rw [e, has_put_other hne, atKey_put_other hne]
  exact h.2 a b ha wa wb
end
/-- the decoder in memory -/
def DecK (W : World) (B : Nat) (codes : List S124) (n : Nat) : Prop := ∃ D : DataW Unit, W.ownsMap Try.prog 124 (Go.plainElem Try.prog 3) B n D ∧ KnowsD codes n D
theorem DecK.lt {W : World} {B : Nat} {codes : List S124} {n : Nat} (h : DecK W B codes n) : B < W.heap.size := by
 obtain ⟨D, h1, _⟩ := h
 exact h1.lt
theorem DecK.below {W W1 : World} {B : Nat} {codes : List S124} {n : Nat} (h : DecK W B codes n) (hb : Below W.heap.size W W1) : DecK W1 B codes n := by
 obtain ⟨D, h1, h2⟩ := h
 exact ⟨D, h1.kept (grown_of_below hb none) (by simp), h2⟩
theorem DecK.grown {W W1 : World} {B : Nat} {codes : List S124} {n : Nat} {row : Option Nat} (h : DecK W B codes n) (hg : W.grownBy W1 row) (hne : some B ≠ row) : DecK W1 B codes n := by
 obtain ⟨D, h1, h2⟩ := h
 exact ⟨D, h1.kept hg hne, h2⟩
theorem wf_small (x : Int) (h0 : 0 ≤ x) (h1 : x ≤ 4611686018427387904) : (Lit.int .i64 x).wf = true := by
 simp only [Lit.wf, Bool.and_eq_true, decide_eq_true_eq]
 have h1 : IntKind.i64.min = -9223372036854775808 := rfl
 have h2 : IntKind.i64.max = 9223372036854775807 := rfl
 omega
set_option maxRecDepth 100000 in
set_option maxHeartbeats 4000000 in
theorem newDecoder_calls (A : Option Addr) (c : Nat) (lens : List Int) (w : World) (hr : Kd.C (Kd.int .i64) w A lens.length lens) (hc : lens.length ≤ c) (hl : lens.length ≤ 4611686018427387903) :
  Calls Try.prog 82 #[.slice A lens.length c] w fun e w' => e = .returned (.map (some w.heap.size)) ∧ DecK w' w.heap.size (codesM lens) (codesM lens).length ∧ Below w.heap.size w w' := by
 have HR := Aside0.mk hr
 have HC := Aside0.mk hc
 obtain ⟨k, hk⟩ := (impl_CodesOf.ev lens hl).rounds
 have HK := Aside0.mk hk
 have HIN := Aside0.mk (codes_in lens)
 have hsm := codesM_small lens
 clear hr hc hk
 have hmm := @run_makeMap Try.prog
 go_enter Try.func82, Try.ntmps82
 go_wp2_with fail
 clear hmm
 have hown0 := World.ownsMap_made (H := Unit) w Try.prog 124 (Go.plainElem Try.prog 3)
 have hB0 := below_alloc (Below.refl w.heap.size w) (Obj.map #[] 0)
 have hD0 := Aside0.mk (show DecK (w.alloc (Obj.map #[] 0)) w.heap.size (codesM lens) 0 from ⟨_, hown0, knows_start _⟩)
 have HB0 := Aside0.mk hB0
 have hs0 : w.heap.size + 1 ≤ (w.alloc (Obj.map #[] 0)).heap.size := by simp
 generalize w.alloc (Obj.map #[] 0) = W0 at hD0 HB0 hs0 ⊢
 clear hown0 hB0
 refine (impl_CodesOf.calls k A c lens (codesM lens) _ (Kd.C_below HR.out HB0.out) HC.out HK.out).mono ?_
 rintro e_ w1 ⟨v, rfl, ho, hb⟩
 obtain ⟨A1, c1, e1⟩ := Kd.R_slice ho
 subst e1
 have HO := Aside0.mk (Kd.R_lower ho hs0)
 have HD := Aside0.mk (hD0.out.below hb)
 have HB := Aside0.mk (Below.trans HB0.out (hb.mono HB0.out.size))
 clear ho hb hD0
 generalize hcs : codesM lens = cs at HO HD HIN hsm ⊢
 have HCS := Aside0.mk hcs
 clear hcs
 go_wp2
 go_loopw [10] (fun v10 w' => ∃ i : Nat, v10 = .int .i64 i ∧ i ≤ cs.length ∧ Aside0 (Kd.R k124 124 w' (w.heap.size + 1) (fun _ => True) (.slice A1 cs.length c1) cs) ∧ Aside0 (DecK w' w.heap.size cs i) ∧ Aside0 (Below w.heap.size w w')) (fun v10 w' => cs.length - (intOf v10).toNat)
 case atStart => exact ⟨0, rfl, by omega, HO, HD, HB⟩
 case round =>
  clear HO HD HB
  obtain ⟨i, rfl, hi, HO, HD, HB⟩ := hrel
  by_cases hlt : i < cs.length
  ·obtain ⟨ad, e1, hx0, hx1⟩ := at_T124 (Kd.R_reads' HO.out).2.2 (i : Int) (by omega) (by omega)
   cases e1
   rw [Int.toNat_natCast] at hx0 hx1
   have hin := HIN.out i
   have hel : rd_T124 cs i = cs.getD i z124 := by simp [rd_T124]
   rw [hel] at hx0 hx1
   obtain ⟨a0, ha0⟩ : ∃ a0, a0 = (cs.getD i z124).f0 := ⟨_, rfl⟩
   obtain ⟨b0, hb0⟩ : ∃ b0, b0 = (cs.getD i z124).f1 := ⟨_, rfl⟩
   rw [← ha0] at hx0 hin
   rw [← hb0] at hx1 hin
   have HA0 := Aside0.mk ha0
   have HB0' := Aside0.mk hb0
   obtain ⟨i1, i2, i3, i4⟩ := hin
   clear hel ha0 hb0
   go_upto_region 5 with (fail)
   have hq := blk_new wr (Obj.cells #[.int .i64 a0, .int .i64 b0] 124)
   have HO2 := Aside0.mk (Kd.R_below HO.out (below_alloc (Below.refl wr.heap.size wr) (Obj.cells #[.int .i64 a0, .int .i64 b0] 124)))
   have HD2 := Aside0.mk (HD.out.below (below_alloc (Below.refl wr.heap.size wr) (Obj.cells #[.int .i64 a0, .int .i64 b0] 124)))
   have HB2 := Aside0.mk (below_alloc HB.out (Obj.cells #[.int .i64 a0, .int .i64 b0] 124))
   generalize wr.heap.size = gq at hq ⊢
   generalize wr.alloc (Obj.cells #[.int .i64 a0, .int .i64 b0] 124) = W2 at hq HO2 HD2 HB2 ⊢
   have q0 := blk_cell hq 0
   have q1 := blk_cell hq 1
   simp at q0 q1
   clear hq hx0 hx1 HO HD HB
   by_cases hp : 0 < a0
   ·obtain ⟨D, hown, hkn⟩ := HD2.out
    have HKN := Aside0.mk hkn
    have HOWN := Aside0.mk hown
    clear hkn hown
    have wfa := Aside0.mk (wf_small a0 (by omega) (by omega))
    have wfb := Aside0.mk (wf_small b0 (by omega) (by omega))
    have wfi := Aside0.mk (wf_small (i : Int) (by omega) (by omega))
    go_wp2_with (first | (at_mapUpdate; go_loud (refine Go.wpList_mapUpdate_own _ rfl _ _ _ 96 rfl 124 3 dlaw Try.underlying96 _ w.heap.size i D rfl HOWN.out (by unfold maxLen; omega) _ _ _ rfl rfl (keyF_of a0 b0 wfa.out wfb.out) _ [] (Go.plainElem_int Try.underlying3 wfi.out) ?_; intro w3 hown3 hgrow3); have HOWN3 := Aside0.mk hown3; have HG3 := Aside0.mk hgrow3; clear hown3 hgrow3))
    go_roundw
    case rel =>
     exact ⟨i + 1, by go_num, by omega, ⟨Kd.R_grown1 HO2.out rfl HG3.out (fun e => by have := Kd.R_base HO2.out _ e.symm; omega)⟩, ⟨⟨_, HOWN3.out, knows_put HKN.out a0 b0 HA0.out.symm HB0'.out.symm wfa.out wfb.out⟩⟩, ⟨pw_below_grown HB2.out _ HB2.out.size HG3.out (fun k hk => by cases hk; exact Nat.le_refl _)⟩⟩
    case measure => simp [intOf]; omega
   ·have HKN := HD2
    clear HD2
    go_wp2
    go_roundw
    case rel =>
     obtain ⟨D, hown, hkn⟩ := HKN.out
     exact ⟨i + 1, by go_num, by omega, HO2, ⟨⟨D, hown.mono (by omega), knows_skip hkn (by rw [← HA0.out]; omega)⟩⟩, HB2⟩
    case measure => simp [intOf]; omega
  ·obtain rfl : i = cs.length := by omega
   go_wp2
   go_ret
   exact ⟨rfl, by rw [HCS.out]; exact HD.out, HB.out⟩
theorem DecK.keep {W W1 : World} {B g : Nat} {codes : List S124} {n : Nat} (h : DecK W B codes n) (hk : KeepBut W W1 g none) (hne : B ≠ g) : DecK W1 B codes n := by
 have hlt := h.lt
 obtain ⟨D, ⟨es, clock, h1, h2⟩, h3⟩ := h
 exact ⟨D, ⟨es, clock, (hk.2 B hlt hne (by simp)).trans h1, h2⟩, h3⟩
/-- the reader stands at bit p -/
def RdK (w0 w : World) (g : Nat) (b : List Int) (p : Nat) : Prop := ∃ j m : Nat, BR w0 w g (b.drop j) (valB b p m) m ∧ p + m = 8 * j ∧ j ≤ b.length ∧ m ≤ 23
theorem RdK.below {w0 W W1 : World} {g : Nat} {b : List Int} {p : Nat} (h : RdK w0 W g b p) (hb : Below W.heap.size W W1) : RdK w0 W1 g b p := by
 obtain ⟨j, m, h1, h2⟩ := h
 exact ⟨j, m, h1.below hb, h2⟩
theorem RdK.lt {w0 W : World} {g : Nat} {b : List Int} {p : Nat} (h : RdK w0 W g b p) : g < W.heap.size := by
 obtain ⟨j, m, ⟨A, c, h1, _⟩, _⟩ := h
 exact blk_lt h1
theorem RdK.ge {w0 W : World} {g : Nat} {b : List Int} {p : Nat} (h : RdK w0 W g b p) : w0.heap.size ≤ g := by
 obtain ⟨j, m, ⟨A, c, _, h2, _⟩, _⟩ := h
 exact h2
theorem RdK.far {w0 W W1 : World} {g g' : Nat} {b : List Int} {p : Nat} (h : RdK w0 W g b p) (hk : KeepBut W W1 g' none) (hne : g ≠ g') : RdK w0 W1 g b p := by
 have hlt := h.lt
 obtain ⟨j, m, ⟨A, c, h1, h3⟩, h2⟩ := h
 exact ⟨j, m, ⟨A, c, (hk.2 g hlt hne (by simp)).trans h1, h3⟩, h2⟩
theorem RdK.ne {w0 W : World} {g g' : Nat} {b : List Int} {p : Nat} {t : Nat} {cs : Array Value} (h : RdK w0 W g b p) (hq : W.heap[g']? = some (.cells cs t (0, 0))) (ht : t ≠ 100) : g ≠ g' := by
 obtain ⟨j, m, ⟨A, c, h1, _⟩, _⟩ := h
 exact blk_ne h1 hq (fun e => ht e.symm)
theorem DecK.ne {w0 W : World} {B g : Nat} {codes : List S124} {n : Nat} {b : List Int} {p : Nat} (h : DecK W B codes n) (r : RdK w0 W g b p) : B ≠ g := by
 obtain ⟨D, ⟨es, clock, h1, _⟩, _⟩ := h
 obtain ⟨j, m, ⟨A, c, h2, _⟩, _⟩ := r
 intro e
 rw [e, h2] at h1
 cases h1
theorem DecK.ne2 {W : World} {B g : Nat} {codes : List S124} {n : Nat} {cs : Array Value} {ty : Nat} (h : DecK W B codes n) (r : W.heap[g]? = some (.cells cs ty (0, 0))) : B ≠ g := by
 obtain ⟨D, ⟨es, clock, h1, _⟩, _⟩ := h
 intro e
 rw [e, r] at h1
 cases h1
theorem RdK.start {w0 W : World} {g : Nat} {b : List Int} {A : Option Addr} {c : Nat} (h1 : W.heap[g]? = some (.cells #[.slice A b.length c, .int .i64 0, .int .i64 0] 100 (0, 0))) (hg : w0.heap.size ≤ g) (hC : Kd.C (Kd.int .u8) w0 A b.length b) (hc : b.length ≤ c) : RdK w0 W g b 0 :=
 ⟨0, 0, ⟨A, c, h1, hg, hC, hc⟩, rfl, Nat.zero_le _, by omega⟩
theorem take1_yes (w0 w : World) (g : Nat) (b : List Int) (p : Nat) (hB : Below w0.heap.size w0 w) (h : RdK w0 w g b p) (hbb : ∀ x ∈ b, 0 ≤ x ∧ x ≤ 255) (hp : p < 8 * b.length) :
  Calls Try.prog 147 #[.pointer (some ⟨g, 0, none⟩), .int .i64 1] w fun e w' => e = .returned (.tuple #[.int .i64 (bitAt b p), .bool true]) ∧ RdK w0 w' g b (p + 1) ∧ Below w0.heap.size w0 w' ∧ KeepBut w w' g none := by
 obtain ⟨j, m, h1, h2, h3, h4⟩ := h
 have hf := fillM_val b hbb p 1 _ j m rfl h2 h3
 obtain ⟨j2, m2, e1, e2, e3, e4⟩ := hf.1 (by omega)
 have hr := valB_range b p m
 refine (take_calls w0 w g (b.drop j) (valB b p m) m 1 _ hB h1 hr.1 (by simpa using hr.2) (by omega) (by omega) (by omega) (by omega) (fun x hx => hbb x (List.mem_of_mem_drop hx)) e1).mono ?_
 rintro e w' ⟨b1, b2, b3, b4, b5, b6, b7⟩
 have ev := valB_add b p 1 (m2 - 1)
 rw [show 1 + (m2 - 1) = m2 by omega] at ev
 have hr2 := valB_range b (p + 1) (m2 - 1)
 have hpw := pow_one (m2 - 1)
 have hv1 : valB b p 1 = bitAt b p := by simp [valB]
 have d1 : valB b p m2 / 2 ^ (m2 - 1) = bitAt b p := by
  rw [ev, Int.add_comm, Int.add_mul_ediv_right _ _ (by omega), Int.ediv_eq_zero_of_lt hr2.1 hr2.2, Int.zero_add, hv1]
 have d2 : valB b p m2 % 2 ^ (m2 - 1) = valB b (p + 1) (m2 - 1) := by
  rw [ev, Int.add_comm, Int.add_mul_emod_self_right, Int.emod_eq_of_lt hr2.1 hr2.2]
 rw [show ((m2 : Int) - 1).toNat = m2 - 1 by omega, d1] at b3
 rw [show ((m2 : Int) - 1).toNat = m2 - 1 by omega, d2, show (m2 : Int) - 1 = ((m2 - 1 : Nat) : Int) by omega] at b4
 exact ⟨b3, ⟨j2, m2 - 1, b4, by omega, e3, by omega⟩, b1, b2⟩
theorem take1_no (w0 w : World) (g : Nat) (b : List Int) (p : Nat) (hB : Below w0.heap.size w0 w) (h : RdK w0 w g b p) (hbb : ∀ x ∈ b, 0 ≤ x ∧ x ≤ 255) (hp : ¬ p < 8 * b.length) :
  Calls Try.prog 147 #[.pointer (some ⟨g, 0, none⟩), .int .i64 1] w fun e w' => e = .returned (.tuple #[.int .i64 0, .bool false]) ∧ Below w0.heap.size w0 w' ∧ KeepBut w w' g none := by
 obtain ⟨j, m, h1, h2, h3, h4⟩ := h
 have hf := fillM_val b hbb p 1 _ j m rfl h2 h3
 have hr := valB_range b p m
 refine (take_calls w0 w g (b.drop j) (valB b p m) m 1 _ hB h1 hr.1 (by simpa using hr.2) (by omega) (by omega) (by omega) (by omega) (fun x hx => hbb x (List.mem_of_mem_drop hx)) (hf.2 (by omega))).mono ?_
 rintro e w' ⟨b1, b2, b3⟩
 exact ⟨b3, b1, b2⟩
def ReadPost (w0 : World) (g B : Nat) (codes : List S124) (b : List Int) (R : Option (Nat × Nat)) (w : World) (e : Ending) (w' : World) : Prop :=
 Below w0.heap.size w0 w' ∧ KeepBut w w' g none ∧ DecK w' B codes codes.length ∧
 match R with
 | none => e = .returned (.tuple #[.int .i64 0, .bool false])
 | some (s, q) => e = .returned (.tuple #[.int .i64 (s : Int), .bool true]) ∧ RdK w0 w' g b q
def ReadRel (w0 : World) (g B gf : Nat) (codes : List S124) (b : List Int) (R : Option (Nat × Nat)) (w : World) (kq : Nat) (w' : World) : Prop :=
 ∃ (i : Nat) (x : Int) (p : Nat), Aside0 (w'.heap[gf]? = some (.cells #[.int .i64 (i : Int), .int .i64 x] 124 (0, 0))) ∧ Aside0 (RdK w0 w' g b p) ∧ Aside0 (DecK w' B codes codes.length) ∧ Aside0 (Below w0.heap.size w0 w') ∧ Aside0 (KeepBut w w' g none) ∧
  Aside0 (symM codes b (16 - i) (i : Int) x p = R) ∧ Aside0 (x < 2 ^ i) ∧ kq = 16 - i + 1 ∧ i ≤ 16 ∧ 0 ≤ x
theorem pow_i16 (i : Nat) (h : i ≤ 16) : (2 : Int) ^ i ≤ 65536 := pow_cast i 65536 (Nat.le_trans (Nat.pow_le_pow_right (n := 2) (by decide) h) (by decide))
theorem keep_new {w W : World} {g gf : Nat} (h : KeepBut w W g none) (hf : w.heap.size ≤ gf) (i : Nat) (u : Value) : KeepBut w (W.setCell ⟨gf, i, none⟩ u) g none :=
 ⟨by simpa [World.setCell] using h.1, fun k hk hg hr => (Below.heap_setCell W ⟨gf, i, none⟩ u k (by show k ≠ gf; omega)).trans (h.2 k hk hg hr)⟩
theorem keep_then {w W W2 : World} {g : Nat} (h : KeepBut w W g none) (h2 : KeepBut W W2 g none) : KeepBut w W2 g none :=
 ⟨Nat.le_trans h.1 h2.1, fun k hk hg hr => (h2.2 k (Nat.lt_of_lt_of_le hk h.1) hg hr).trans (h.2 k hk hg hr)⟩
set_option maxRecDepth 100000 in
set_option maxHeartbeats 8000000 in
theorem read_calls (w0 w : World) (g B : Nat) (codes : List S124) (b : List Int) (p : Nat) (R : Option (Nat × Nat)) (hB : Below w0.heap.size w0 w) (h : RdK w0 w g b p) (hD : DecK w B codes codes.length) (hbb : ∀ x ∈ b, 0 ≤ x ∧ x ≤ 255) (hA : Apart codes) (hR : symM codes b 16 0 0 p = R) (hw0 : w0.heap.size ≤ B) :
  Calls Try.prog 83 #[.map (some B), .pointer (some ⟨g, 0, none⟩)] w (ReadPost w0 g B codes b R w) := by
 have HB := Aside0.mk hB
 have HRD := Aside0.mk h
 have HD := Aside0.mk hD
 have HBB := Aside0.mk hbb
 have HA := Aside0.mk hA
 have HR := Aside0.mk hR
 clear hB h hD hbb hA hR
 go_enter Try.func83, Try.ntmps83
 go_wp2
 have hq := blk_new w (Obj.cells #[.int .i64 0, .int .i64 0] 124)
 have hb1 := below_alloc (Below.refl w.heap.size w) (Obj.cells #[.int .i64 0, .int .i64 0] 124)
 have HB1 := Aside0.mk (Below.trans HB.out (hb1.mono HB.out.size))
 have HRD1 := Aside0.mk (HRD.out.below hb1)
 have HD1 := Aside0.mk (HD.out.below hb1)
 have HK1 := Aside0.mk (KeepBut.of_below hb1 g none)
 have HGF := Aside0.mk (show w0.heap.size ≤ w.heap.size from HB.out.size)
 have HGF2 := Aside0.mk (Nat.le_refl w.heap.size)
 have HGB := Aside0.mk (show w.heap.size ≠ B from fun e => by have := HD.out.lt; omega)
 generalize w.alloc (Obj.cells #[.int .i64 0, .int .i64 0] 124) = W1 at hq HB1 HRD1 HD1 HK1 ⊢
 replace HGF2 := Aside0.mk (show w.heap.size ≤ w.heap.size from HGF2.out)
 generalize hgf : w.heap.size = gf at hq HGF HGB ⊢
 have HGF3 := Aside0.mk (show w.heap.size ≤ gf by omega)
 have HQ := Aside0.mk hq
 clear hb1 hq hgf HGF2
 go_loopg [] (17) (fun kq w' => ReadRel w0 g B gf codes b R w kq w')
 case atStart => exact ⟨0, 0, p, HQ, HRD1, HD1, HB1, HK1, HR, ⟨by decide⟩, rfl, by omega, by omega⟩
 case round =>
  clear HQ HRD1 HD1 HB1 HK1
  obtain ⟨i, x, p, HQ, HRD, HD, HB, HK, HS, HX, rfl, hi, hx0⟩ := hrel
  have k0 := blk_cell HQ.out 0
  have k1 := blk_cell HQ.out 1
  simp at k0 k1
  have hne : g ≠ gf := HRD.out.ne HQ.out (by decide)
  by_cases hlt : i < 16
  ·have hxb : x ≤ 65535 := by have := pow_i16 i hi; have := HX.out; omega
   obtain ⟨r, hr⟩ : ∃ r, 16 - i = r + 1 := ⟨15 - i, by omega⟩
   have hs := HS.out
   rw [hr] at hs
   simp only [symM] at hs
   have hwl : (wr : World).heap.size = wr.heap.size := rfl
   clear hwl
   by_cases hp : p < 8 * b.length
   ·rw [if_pos hp] at hs
    have HS2 := Aside0.mk hs
    clear hs
    go_wp2_with fail
    refine (take1_yes w0 _ g b p HB.out HRD.out HBB.out hp).mono ?_
    rintro e_ w2 ⟨rfl, hrd, hb, hk⟩
    have hbit := bitAt_01 b p
    obtain ⟨y, hy⟩ : ∃ y, y = bitAt b p := ⟨_, rfl⟩
    rw [← hy] at hbit ⊢
    have HQ2 := Aside0.mk ((hk.2 gf (blk_lt HQ.out) (fun e => hne e.symm) (by simp)).trans HQ.out)
    have HRD2 := Aside0.mk hrd
    have HD2 := Aside0.mk (HD.out.keep hk (HD.out.ne HRD.out))
    have HB2 := Aside0.mk hb
    have HK2 := Aside0.mk (keep_then HK.out hk)
    have HY := Aside0.mk hy
    clear hrd hb hk hy k0 k1
    have k0 := blk_cell HQ2.out 0
    have k1 := blk_cell HQ2.out 1
    simp at k0 k1
    have f0 := blk_frozen HQ2.out 0
    have f1 := blk_frozen HQ2.out 1
    have e1 : wrap64 ((i : Int) + 1) = (i : Int) + 1 := wrap_in _ (by omega) (by omega)
    have e2 : wrap64 (2 * x) = 2 * x := wrap_in _ (by omega) (by omega)
    have e3 : wrap64 (2 * x + y) = 2 * x + y := wrap_in _ (by omega) (by omega)
    go_upto_region 7 with (fail)
    have HKF : Aside0 (KeepBut w2 ((w2.setCell ⟨gf, 0, none⟩ (.int .i64 ((i : Int) + 1))).setCell ⟨gf, 1, none⟩ (.int .i64 (2 * x + y))) gf none) := ⟨keep_set (keep_set (KeepBut.refl w2 gf none) _ _) _ _⟩
    have hq3 := blk_set (blk_set HQ2.out 0 (.int .i64 ((i : Int) + 1))) 1 (.int .i64 (2 * x + y))
    have HQ3 := Aside0.mk (show ((w2.setCell ⟨gf, 0, none⟩ (.int .i64 ((i : Int) + 1))).setCell ⟨gf, 1, none⟩ (.int .i64 (2 * x + y))).heap[gf]? = some (.cells #[.int .i64 ((i + 1 : Nat) : Int), .int .i64 (2 * x + y)] 124 (0, 0)) from hq3)
    have HRD3 := Aside0.mk (HRD2.out.far HKF.out hne)
    have HD3 := Aside0.mk (HD2.out.keep HKF.out (HD2.out.ne2 HQ2.out))
    have HB3 := Aside0.mk (below_set (below_set HB2.out HGF.out (j := 0) (v := .int .i64 ((i : Int) + 1))) HGF.out (j := 1) (v := .int .i64 (2 * x + y)))
    have HK3 := Aside0.mk (keep_new (keep_new HK2.out HGF3.out 0 (.int .i64 ((i : Int) + 1))) HGF3.out 1 (.int .i64 (2 * x + y)))
    generalize (w2.setCell ⟨gf, 0, none⟩ (.int .i64 ((i : Int) + 1))).setCell ⟨gf, 1, none⟩ (.int .i64 (2 * x + y)) = W3 at HQ3 HRD3 HD3 HB3 HK3 ⊢
    clear hq3 HKF HQ2 HRD2 HD2 HB2 HK2 k0 k1 f0 f1 e1 e2 e3
    have k0 := blk_cell HQ3.out 0
    have k1 := blk_cell HQ3.out 1
    simp at k0 k1
    obtain ⟨D, hown, hkn⟩ := HD3.out
    have hw1 := wf_small ((i : Int) + 1) (by omega) (by omega)
    have hw2 := wf_small (2 * x + y) (by omega) (by omega)
    obtain ⟨kh, kat⟩ := hkn.2 ((i : Int) + 1) (2 * x + y) (by omega) hw1 hw2
    rw [last_first HA.out _ _ (by omega) _ (Nat.le_refl _)] at kh kat
    have HOWN := Aside0.mk hown
    have HKEY := Aside0.mk (keyF_of _ _ hw1 hw2)
    have hsy := HS2.out
    rw [← HY.out] at hsy
    clear hown hkn hw1 hw2 HS2
    obtain ⟨v, hv⟩ : ∃ v, v = 2 * x + y := ⟨_, rfl⟩
    have HV := Aside0.mk hv
    rw [← hv] at k1 kh kat HKEY hsy HQ3 ⊢
    clear hv
    cases hf : firstS codes ((i : Int) + 1) v codes.length with
    | none =>
     rw [hf] at kh hsy
     simp only [Option.isSome_none] at kh
     have KH := Aside0.mk kh
     have HSY := Aside0.mk hsy
     clear kh kat hsy hf
     go_wp2_with (first | (at_lookup; go_loud (refine Go.wpList_lookup_own_ok_int _ rfl _ _ 96 rfl 124 3 .i64 dlaw Try.underlying96 Try.underlying3 (dzero _) B codes.length D rfl HOWN.out _ (keyF ((i : Int) + 1) v) rfl HKEY.out ?_; intro cc hat hwc; rw [KH.out]); clear hat hwc))
     go_roundg (16 - (i + 1) + 1)
     case rel =>
      refine ⟨i + 1, v, p + 1, HQ3, HRD3, HD3, HB3, HK3, ⟨?_⟩, ⟨?_⟩, rfl, by omega, by rw [HV.out]; omega⟩
      ·rw [← HSY.out, show 16 - (i + 1) = r by omega]; rfl
      ·have := HX.out
       rw [HV.out, Int.pow_succ]; omega
     case measure => simp; omega
    | some s =>
     rw [hf] at kh hsy
     simp only [Option.isSome_some] at kh
     have hat0 := kat s hf
     have KH := Aside0.mk kh
     have HAT := Aside0.mk hat0
     have HSY := Aside0.mk hsy
     clear kh kat hsy hf hat0
     go_wp2_with (first | (at_lookup; go_loud (refine Go.wpList_lookup_own_ok_int _ rfl _ _ 96 rfl 124 3 .i64 dlaw Try.underlying96 Try.underlying3 (dzero _) B codes.length D rfl HOWN.out _ (keyF ((i : Int) + 1) v) rfl HKEY.out ?_; intro cc hat hwc; rw [KH.out]; obtain rfl : cc = (s : Int) := (by have h9 := HAT.out; rw [hat] at h9; simpa using h9)); clear hat hwc))
     go_ret2
     have := HSY.out
     subst this
     exact ⟨HB3.out, HK3.out, HD3.out, rfl, HRD3.out⟩
   ·rw [if_neg hp] at hs
    have HS2 := Aside0.mk hs
    clear hs
    go_wp2_with fail
    refine (take1_no w0 _ g b p HB.out HRD.out HBB.out hp).mono ?_
    rintro e_ w2 ⟨rfl, hb, hk⟩
    have HB2 := Aside0.mk hb
    have HK2 := Aside0.mk (keep_then HK.out hk)
    have HD2 := Aside0.mk (HD.out.keep hk (HD.out.ne HRD.out))
    clear hb hk k0 k1
    go_wp2
    go_ret2
    have := HS2.out
    subst this
    exact ⟨HB2.out, HK2.out, HD2.out, rfl⟩
  ·obtain rfl : i = 16 := by omega
   go_wp2
   go_ret2
   have := HS.out
   subst this
   exact ⟨HB.out, HK.out, HD.out, rfl⟩
theorem RdK.grown {w0 W W1 : World} {g : Nat} {b : List Int} {p : Nat} {row : Option Nat} (h : RdK w0 W g b p) (hg : W.grownBy W1 row) (hne : some g ≠ row) : RdK w0 W1 g b p := by
 obtain ⟨j, m, h1, h2⟩ := h
 exact ⟨j, m, h1.grown hg hne, h2⟩
theorem RdK.blk {w0 W : World} {g : Nat} {b : List Int} {p : Nat} (h : RdK w0 W g b p) : ∃ cs, W.heap[g]? = some (.cells cs 100 (0, 0)) := by
 obtain ⟨j, m, ⟨A, c, h1, _⟩, _⟩ := h
 exact ⟨_, h1⟩
theorem DecK.neR {W : World} {B : Nat} {codes : List S124} {n : Nat} (h : DecK W B codes n) {α : Type} {d : Kd α} {e base : Nat} {ok : Nat → Prop} {v : Value} {xs : List α} (r : d.R e W base ok v xs) : some B ≠ v.ownBlock := by
 intro e1
 obtain ⟨cs, hcs⟩ := Kd.R_typed r B e1.symm
 exact h.ne2 hcs rfl
end Go.Proofs.Ytcjjmfpkhhdmlaa.G


namespace Go.Proofs.Ytcjjmfpkhhdmlaa.G
open Go.RowKit Go.Proofs.YtcjjmfpkhhdmlaaW.PrintWords Go.Proofs.YtcjjmfpkhhdmlaaW.PrintLast Go.Proofs.YtcjjmfpkhhdmlaaW.PrintMore
attribute [local go_sem] max2_int min2_int max_two min_two max_three min_three max_four min_four   -- for this text's walks alone
--import Derived.BigRegion
def impl_CodeRead.f (l0 l1 : List Int) (a2 : Int) : Option (List Int × Bool) := if isB l1 ∧ l1.length ≤ 1048576 ∧ l0.length ≤ 1048576 then some (codeReadM l0 l1 a2) else none
def CrdRel (w : World) (B g : Nat) (cs : List S124) (b : List Int) (N : Nat) (v10 v28 : Value) (w' : World) : Prop :=
 ∃ (i p : Nat) (out : List Int), v28 = .int .i64 i ∧ i ≤ N ∧ Aside0 (RdK w w' g b p) ∧ Aside0 (DecK w' B cs cs.length) ∧ Aside0 (Below w.heap.size w w') ∧ Aside0 (Kd.R (Kd.int .i64) 3 w' w.heap.size (fun _ => True) v10 out) ∧ Aside0 ((readM cs b (N - i) p).map (out ++ ·) = readM cs b N 0) ∧ Aside0 (out.length = i)
set_option maxRecDepth 100000 in
set_option maxHeartbeats 4000000 in
theorem codeRead_calls (A0 : Option Addr) (c0 : Nat) (l0 : List Int) (A1 : Option Addr) (c1 : Nat) (l1 : List Int) (a2 : Int) (w : World) (hr0 : Kd.C (Kd.int .i64) w A0 l0.length l0) (hc0 : l0.length ≤ c0) (hr1 : Kd.C (Kd.int .u8) w A1 l1.length l1) (hc1 : l1.length ≤ c1) (hb : isB l1 = true) (hl1 : l1.length ≤ 1048576) (hl0 : l0.length ≤ 1048576) :
  Calls Try.prog 18 #[.slice A0 l0.length c0, .slice A1 l1.length c1, .int .i64 a2] w fun e w' => ∃ v0_ : Value, e = .returned (.tuple #[v0_, .bool (codeReadM l0 l1 a2).2]) ∧ Kd.R (Kd.int .i64) 3 w' w.heap.size (fun _ => True) v0_ (codeReadM l0 l1 a2).1 ∧ Below w.heap.size w w' := by
 obtain ⟨cr, hcr⟩ : ∃ cr, cr = codeReadM l0 l1 a2 := ⟨_, rfl⟩
 rw [← hcr]
 unfold codeReadM at hcr
 obtain ⟨ok, hok⟩ : ∃ ok, ok = lensOkM l0 := ⟨_, rfl⟩
 have hlo := impl_LensOk.ev l0 (by omega)
 rw [← hok] at hcr hlo
 obtain ⟨kl, hkl⟩ := hlo.rounds
 have HKL := Aside0.mk hkl
 have HCR := Aside0.mk hcr
 have HR0 := Aside0.mk hr0
 have HC0 := Aside0.mk hc0
 have HR1 := Aside0.mk hr1
 have HC1 := Aside0.mk hc1
 have HBB := Aside0.mk (isB_all hb)
 clear hlo hkl hcr hr0 hc0 hr1 hc1 hb hok
 cases ok with
 | false =>
  go_enter Try.func18, Try.ntmps18
  go_wp2_with fail
  refine (impl_LensOk.calls kl A0 c0 l0 false _ HR0.out HC0.out HKL.out).mono ?_
  rintro e_ w_ ⟨rfl, ⟨nd, rfl⟩⟩
  go_wp2
  go_ret2
  have := HCR.out
  rw [if_neg (fun h => by cases h.1)] at this
  subst this
  exact ⟨_, rfl, Kd.R_nil _ _ _ _ _, pw_below_drewN (Below.refl _ _) _⟩
 | true =>
  have hwi := impl_within.val a2 0 60000
  by_cases hn : 0 ≤ a2 ∧ a2 ≤ 60000
  ·obtain ⟨n0, n1⟩ := hn
   rw [show (decide (0 ≤ a2) && decide (a2 ≤ 60000)) = true by simp [n0, n1]] at hwi
   have HW := Aside0.mk hwi
   have hcr := HCR.out
   rw [if_pos ⟨rfl, n0, n1⟩] at hcr
   replace HCR := Aside0.mk hcr
   obtain ⟨N, rfl⟩ := Int.eq_ofNat_of_zero_le n0
   clear hwi hcr
   go_enter Try.func18, Try.ntmps18
   go_wp2_with fail
   refine (impl_LensOk.calls kl A0 c0 l0 true _ HR0.out HC0.out HKL.out).mono ?_
   rintro e_ w_ ⟨rfl, ⟨nd, rfl⟩⟩
   go_wp2_with fail
   refine (impl_within.calls (N : Int) 0 60000 true _ HW.out).mono ?_
   rintro e_ w_ ⟨rfl, ⟨nd2, rfl⟩⟩
   go_wp2_with fail
   refine (newDecoder_calls A0 c0 l0 (w.drewN (nd + nd2)) (Kd.C_drewN HR0.out _) HC0.out (by omega)).mono ?_
   rintro e_ w2 ⟨rfl, hd, hb2⟩
   have HD := Aside0.mk (show DecK w2 w.heap.size (codesM l0) (codesM l0).length from hd)
   have HB := Aside0.mk (show Below w.heap.size w w2 from (pw_below_drewN (Below.refl w.heap.size w) (nd + nd2)).trans hb2)
   rw [show (w.drewN (nd + nd2)).heap.size = w.heap.size from rfl]
   generalize hB : w.heap.size = B at HD ⊢
   have HBG := Aside0.mk (show w.heap.size ≤ B by omega)
   have HAP := Aside0.mk (codesM_apart l0)
   clear hd hb2 hB
   generalize codesM l0 = cs at HD HAP HCR
   have hbr := blk_new w2 (Obj.cells #[.slice A1 l1.length c1, .int .i64 0, .int .i64 0] 100)
   have hal := below_alloc (Below.refl w2.heap.size w2) (Obj.cells #[.slice A1 l1.length c1, .int .i64 0, .int .i64 0] 100)
   have HD2 := Aside0.mk (HD.out.below hal)
   have HB2 := Aside0.mk (Below.trans HB.out (hal.mono HB.out.size))
   have HRD := Aside0.mk (show RdK w (w2.alloc (Obj.cells #[.slice A1 l1.length c1, .int .i64 0, .int .i64 0] 100)) w2.heap.size l1 0 from RdK.start hbr HB.out.size HR1.out HC1.out)
   have HGW := Aside0.mk (show (w2.alloc (Obj.cells #[.slice A1 l1.length c1, .int .i64 0, .int .i64 0] 100)).heap.size = w2.heap.size + 1 from World.size_alloc _ _)
   clear hbr hal HD HB
   go_wp2_with (first | ((with_reducible refine gate_dst (N := 26) rfl ?_); refine Kd.R_lit (w0 := w) (Kd.int .i64) w.heap.size 3 ?hg (N := 26) ?hd (xs := ([] : List Int)) (inner := []) (ok := fun _ => True) (okp := fun _ => True) ?hr ?hp (fun _ hk => hk) trivial HB2.out HB2.out.size (by simp) ?_; (case hd => rfl); (case hg => rfl); (case hr => first | (go_simp; done) | (go_simp; rfl)); (case hp => exact (Reps.none _ _)); intro v10 w3 ho hb hg_ hnew_; have HO := Aside0.mk ho; have HB := Aside0.mk hb; have HG := Aside0.mk hg_; clear ho hb hg_ hnew_))
   have HRD3 := Aside0.mk (HRD.out.grown HG.out (by simp))
   have HD3 := Aside0.mk (HD2.out.grown HG.out (by simp))
   clear HRD HD2 HB2 HG HGW
   generalize w2.heap.size = g at HRD3 ⊢
   go_loopw [10, 28] (fun v10 v28 w' => CrdRel w B g cs l1 N v10 v28 w') (fun v10 v28 w' => N - (intOf v28).toNat)
   case atStart => exact ⟨0, 0, [], rfl, by omega, HRD3, HD3, HB, HO, ⟨by simp⟩, ⟨rfl⟩⟩
   case round =>
    clear HRD3 HD3 HB HO
    obtain ⟨i, p, out, rfl, hi, HRD, HD, HB, HO, HU, HL⟩ := hrel
    by_cases hlt : i < N
    ·obtain ⟨r, hr⟩ : ∃ r, N - i = r + 1 := ⟨N - i - 1, by omega⟩
     have hu := HU.out
     rw [hr] at hu
     simp only [readM] at hu
     have hll := HL.out
     cases hf : symM cs l1 16 0 0 p with
     | none =>
      rw [hf] at hu
      have HF := Aside0.mk hf
      have HUU := Aside0.mk hu
      clear hf hu
      go_wp2_with fail
      refine (read_calls w _ g B cs l1 p none HB.out HRD.out HD.out HBB.out HAP.out HF.out HBG.out).mono ?_
      rintro e_ w4 ⟨hb4, hk4, hd4, rfl⟩
      have HB4 := Aside0.mk hb4
      clear hb4 hk4 hd4
      go_wp2
      go_ret2
      have h1 := HUU.out
      simp only [Option.map_none] at h1
      have := HCR.out
      rw [show ((N : Int).toNat) = N from Int.toNat_natCast N, ← h1] at this
      subst this
      exact ⟨_, rfl, Kd.R_nil _ _ _ _ _, HB4.out⟩
     | some z =>
      obtain ⟨s, q⟩ := z
      rw [hf] at hu
      have HF := Aside0.mk hf
      have HUU := Aside0.mk hu
      clear hf hu
      go_wp2_with fail
      refine (read_calls w _ g B cs l1 p (some (s, q)) HB.out HRD.out HD.out HBB.out HAP.out HF.out HBG.out).mono ?_
      rintro e_ w4 ⟨hb4, hk4, hd4, rfl, hr4⟩
      obtain ⟨bc, hbc⟩ := HRD.out.blk
      have HO4 := Aside0.mk (Kd.R_keep (Kd.R_types HO.out hbc (by decide)) hk4 (fun k hk => hk.2))
      have HB4 := Aside0.mk hb4
      have HD4 := Aside0.mk hd4
      have HR4 := Aside0.mk hr4
      clear hb4 hk4 hd4 hr4 hbc HO HB HD HRD
      obtain ⟨x, hx⟩ : ∃ x : Int, x = (s : Int) := ⟨_, rfl⟩
      rw [← hx]
      have HX := Aside0.mk hx
      clear hx
      go_wp2_with (first | ((with_reducible refine gate_builtin (b := .append) (xs := #[.tmp 38, .tmp 40]) rfl ?_); at_builtin; refine Kd.R_append (Kd.int .i64) (w0 := w) w.heap.size rfl (.tmp 38) (.tmp 40) 22 3 (.int .i64 0) 8 rfl Try.underlying22 info3 rfl (by decide) (by omega) _ out x [.int .i64 x] (fun _ => True) (fun _ => False) rfl rfl rfl (fun _ hk => hk.elim) (fun _ _ => trivial) (Kd.R_mono HO4.out (fun _ _ => trivial)) HB4.out HB4.out.size (by omega) ?_; intro v8 w5 ho hb hg hat; have HO := Aside0.mk ho; have HB := Aside0.mk hb; have HG := Aside0.mk hg; clear ho hb hg hat))
      go_roundw
      case rel =>
       obtain ⟨bc, hbc⟩ := HR4.out.blk
       refine ⟨i + 1, q, out ++ [x], by go_num, by omega, ⟨HR4.out.grown HG.out (Kd.R_ne HO4.out hbc (by decide))⟩, ⟨HD4.out.grown HG.out (HD4.out.neR HO4.out)⟩, HB, HO, ⟨?_⟩, ⟨by simp [HL.out]⟩⟩
       rw [← HUU.out, show N - (i + 1) = r by omega]
       (try simp only [])
       rw [Option.map_map]
       congr 1
       funext l
       simp [HX.out]
      case measure => simp [intOf]; omega
    ·obtain rfl : i = N := by omega
     have h1 := HU.out
     rw [Nat.sub_self] at h1
     simp only [readM, Option.map_some, List.append_nil] at h1
     have HUU := Aside0.mk h1
     clear h1
     go_wp2
     go_ret2
     have := HCR.out
     rw [show ((i : Int).toNat) = i from Int.toNat_natCast i, ← HUU.out] at this
     subst this
     exact ⟨_, rfl, HO.out, HB.out⟩
  ·have hf : (decide (0 ≤ a2) && decide (a2 ≤ 60000)) = false := by
    rw [Bool.eq_false_iff]; intro h; simp only [Bool.and_eq_true, decide_eq_true_eq] at h; exact hn h
   rw [hf] at hwi
   have HW := Aside0.mk hwi
   have hcr := HCR.out
   rw [if_neg (fun h => hn h.2)] at hcr
   subst hcr
   clear hwi hf hn HCR
   go_enter Try.func18, Try.ntmps18
   go_wp2_with fail
   refine (impl_LensOk.calls kl A0 c0 l0 true _ HR0.out HC0.out HKL.out).mono ?_
   rintro e_ w_ ⟨rfl, ⟨nd, rfl⟩⟩
   go_wp2_with fail
   refine (impl_within.calls a2 0 60000 false _ HW.out).mono ?_
   rintro e_ w_ ⟨rfl, ⟨nd2, rfl⟩⟩
   go_wp2
   go_ret2
   exact ⟨_, rfl, Kd.R_nil _ _ _ _ _, by repeat (first | exact Below.refl _ _ | apply pw_below_drewN)⟩
theorem impl_CodeRead.calls (A0 : Option Addr) (c0 : Nat) (l0 : List Int) (A1 : Option Addr) (c1 : Nat) (l1 : List Int) (a2 : Int) (r1 : List Int) (r2 : Bool) (w : World) (hr0 : Kd.C (Kd.int .i64) w A0 l0.length l0) (hc0 : l0.length ≤ c0) (hr1 : Kd.C (Kd.int .u8) w A1 l1.length l1) (hc1 : l1.length ≤ c1) (h : impl_CodeRead.f l0 l1 a2 = some (r1, r2)) :
  Calls Try.prog 18 #[.slice A0 l0.length c0, .slice A1 l1.length c1, .int .i64 a2] w fun e w' => ∃ v0_ : Value, e = .returned (.tuple #[v0_, .bool r2]) ∧ Kd.R (Kd.int .i64) 3 w' w.heap.size (fun _ => True) v0_ r1 ∧ Below w.heap.size w w' := by
 unfold impl_CodeRead.f at h
 split at h
 ·rename_i hc
  have hp := codeRead_calls A0 c0 l0 A1 c1 l1 a2 w hr0 hc0 hr1 hc1 hc.1 hc.2.1 hc.2.2
  rw [Option.some.inj h] at hp
  exact hp
 ·cases h
end Go.Proofs.Ytcjjmfpkhhdmlaa.G


namespace Go.Proofs.Ytcjjmfpkhhdmlaa.G
open Go.RowKit Go.Proofs.YtcjjmfpkhhdmlaaW.PrintWords Go.Proofs.YtcjjmfpkhhdmlaaW.PrintLast Go.Proofs.YtcjjmfpkhhdmlaaW.PrintMore
attribute [local go_sem] max2_int min2_int max_two min_two max_three min_three max_four min_four   -- for this text's walks alone
def laws_big.f (l0 : List Int) : Option (Bool) := some (decide ((l0.length : Int) > 1048576))
set_option maxHeartbeats 8000000 in
set_option maxRecDepth 100000 in
theorem laws_big.calls (A0 : Option Addr) (c0 : Nat) (l0 : List Int) (r : Bool) (w : World) (hr0 : Kd.C (Kd.int .u8) w A0 l0.length l0) (hc0 : l0.length ≤ c0) (h : laws_big.f l0 = some r) :
  Calls Try.prog 24 #[.slice A0 l0.length c0] w fun e w' => e = .returned (.bool r) ∧ Drawn0 w w' := by
 have HR0 := Aside0.mk hr0
 have HC0 := Aside0.mk hc0
 clear hr0 hc0
 have H : (some (decide ((l0.length : Int) > 1048576))) = some r := h
 clear h
 obtain rfl := Option.some.inj H
 go_enter Try.func24, Try.ntmps24
 go_wp2
 go_ret
 exact ⟨by first | rfl | (simp; done) | (simp [*]; done), by repeat (first | exact Drawn0.refl _ | apply Drawn0.step)⟩
end Go.Proofs.Ytcjjmfpkhhdmlaa.G


namespace Go.Proofs.Ytcjjmfpkhhdmlaa.G
open Go.RowKit Go.Proofs.YtcjjmfpkhhdmlaaW.PrintWords Go.Proofs.YtcjjmfpkhhdmlaaW.PrintLast Go.Proofs.YtcjjmfpkhhdmlaaW.PrintMore
attribute [local go_sem] max2_int min2_int max_two min_two max_three min_three max_four min_four   -- for this text's walks alone
def laws_sameInts.l0 : Nat → List Int → List Int → Int → Option (Bool)
 | 0, _, _, _ => none
 | k + 1, x0, x1, x5 => if x5 < (x0.length : Int) then (if 0 ≤ x5 then (if x5 < (x1.length : Int) then (if (rd x0 x5) = (rd x1 x5) then (laws_sameInts.l0 k x0 x1 (wrap64 (x5 + 1))) else (some false)) else (none)) else (none)) else (some true)
def laws_sameInts.f (k : Nat) (l0 : List Int) (l1 : List Int) : Option (Bool) := if (l0.length : Int) = (l1.length : Int) then (laws_sameInts.l0 k l0 l1 0) else (some false)
set_option maxHeartbeats 8000000 in
set_option maxRecDepth 100000 in
theorem laws_sameInts.calls (k : Nat) (A0 : Option Addr) (c0 : Nat) (l0 : List Int) (A1 : Option Addr) (c1 : Nat) (l1 : List Int) (r : Bool) (w : World) (hr0 : Kd.C (Kd.int .i64) w A0 l0.length l0) (hc0 : l0.length ≤ c0) (hr1 : Kd.C (Kd.int .i64) w A1 l1.length l1) (hc1 : l1.length ≤ c1) (h : laws_sameInts.f k l0 l1 = some r) :
  Calls Try.prog 29 #[.slice A0 l0.length c0, .slice A1 l1.length c1] w fun e w' => e = .returned (.bool r) ∧ Drawn0 w w' := by
 have HR0 := Aside0.mk hr0
 have HC0 := Aside0.mk hc0
 clear hr0 hc0
 have HR1 := Aside0.mk hr1
 have HC1 := Aside0.mk hc1
 clear hr1 hc1
 have H : (if (l0.length : Int) = (l1.length : Int) then (laws_sameInts.l0 k l0 l1 0) else (some false)) = some r := h
 clear h
 by_cases c3 : (l0.length : Int) = (l1.length : Int)
 ·rw [if_pos c3] at H
  have c3b0 : ((l0.length : Int) == (l1.length : Int)) = true := beq_iff_eq.mpr c3
  have c3b1 : ((l0.length : Int) != (l1.length : Int)) = false := bne_eq_false_iff_eq.mpr c3
  have c3b2 : (l0.length == l1.length) = true := by first | simpa using c3 | (simp at c3 ⊢; omega)
  clear c3
  have H' := Aside0.mk H
  clear H
  go_enter Try.func29, Try.ntmps29
  go_wp2
  repeat (go_quiet (fail); try go_wp2)
  go_loopg [5] k (fun kq v5 w' => ∃ (x5_1 : Int), v5 = .int .i64 x5_1 ∧ Aside0 (laws_sameInts.l0 kq l0 l1 x5_1 = some r) ∧ Aside0 (kq ≤ k) ∧ Drawn0 w w')
  case atStart => exact ⟨(0), (by first | rfl | (simp; done) | (simp [*]; done)), H', ⟨Nat.le_refl _⟩, by repeat (first | exact Drawn0.refl _ | apply Drawn0.step)⟩
  case round =>
   clear H'
   try clear c1
   try clear c2
   try clear p2
   try clear c3
   try clear c3b0
   try clear c3b1
   try clear c3b2
   obtain ⟨x5_1, rfl, HA, HK1, ⟨m1, rfl⟩⟩ := hrel
   cases gk with
   | zero => exact absurd HA.out (by simp [laws_sameInts.l0])
   | succ k1 =>
    have H := HA.out
    clear HA
    simp only [laws_sameInts.l0] at H
    by_cases c4 : x5_1 < (l0.length : Int)
    ·rw [if_pos c4] at H
     have c4b0 : decide (x5_1 < (l0.length : Int)) = true := decide_eq_true c4
     clear c4
     by_cases c5 : 0 ≤ x5_1
     ·rw [if_pos c5] at H
      have c5b0 : decide (0 ≤ x5_1) = true := decide_eq_true c5
      clear c5
      by_cases c6 : x5_1 < (l1.length : Int)
      ·rw [if_pos c6] at H
       have c6b0 : decide (x5_1 < (l1.length : Int)) = true := decide_eq_true c6
       clear c6
       by_cases c7 : (rd l0 x5_1) = (rd l1 x5_1)
       ·rw [if_pos c7] at H
        have c7b0 : ((rd l0 x5_1) == (rd l1 x5_1)) = true := beq_iff_eq.mpr c7
        have c7b1 : ((rd l0 x5_1) != (rd l1 x5_1)) = false := bne_eq_false_iff_eq.mpr c7
        clear c7
        have H' := Aside0.mk H
        clear H
        have p239 : 0 ≤ (x5_1 : Int) := of_decide_eq_true (by first | (with_reducible assumption) | assumption)
        have q239 : x5_1 < (l0.length : Int) := of_decide_eq_true (by first | (with_reducible assumption) | assumption)
        obtain ⟨ad239, e239, hx239_0⟩ := Kd.at_int HR0.out x5_1 p239 q239
        cases e239
        replace p239 := eq_true p239
        replace q239 := eq_true q239
        have p240 : 0 ≤ (x5_1 : Int) := of_decide_eq_true (by first | (with_reducible assumption) | assumption)
        have q240 : x5_1 < (l1.length : Int) := of_decide_eq_true (by first | (with_reducible assumption) | assumption)
        obtain ⟨ad240, e240, hx240_0⟩ := Kd.at_int HR1.out x5_1 p240 q240
        cases e240
        replace p240 := eq_true p240
        replace q240 := eq_true q240
        go_wp2
        repeat (go_quiet (fail); try go_wp2)
        go_roundg k1
        case measure => have := HK1.out; omega
        case rel => exact ⟨(wrap64 (x5_1 + 1)), (by first | rfl | (simp; done) | (simp [*]; done)), H', ⟨by have := HK1.out; omega⟩, by repeat (first | exact Drawn0.refl _ | apply Drawn0.step)⟩
       ·rw [if_neg c7] at H
        have c7b0 : ((rd l0 x5_1) == (rd l1 x5_1)) = false := beq_eq_false_iff_ne.mpr c7
        have c7b1 : ((rd l0 x5_1) != (rd l1 x5_1)) = true := bne_iff_ne.mpr c7
        obtain rfl := Option.some.inj H
        have p239 : 0 ≤ (x5_1 : Int) := of_decide_eq_true (by first | (with_reducible assumption) | assumption)
        have q239 : x5_1 < (l0.length : Int) := of_decide_eq_true (by first | (with_reducible assumption) | assumption)
        obtain ⟨ad239, e239, hx239_0⟩ := Kd.at_int HR0.out x5_1 p239 q239
        cases e239
        replace p239 := eq_true p239
        replace q239 := eq_true q239
        have p240 : 0 ≤ (x5_1 : Int) := of_decide_eq_true (by first | (with_reducible assumption) | assumption)
        have q240 : x5_1 < (l1.length : Int) := of_decide_eq_true (by first | (with_reducible assumption) | assumption)
        obtain ⟨ad240, e240, hx240_0⟩ := Kd.at_int HR1.out x5_1 p240 q240
        cases e240
        replace p240 := eq_true p240
        replace q240 := eq_true q240
        go_wp2
        repeat (go_quiet (fail); try go_wp2)
        go_ret
        exact ⟨by first | rfl | (simp; done) | (simp [*]; done), by repeat (first | exact Drawn0.refl _ | apply Drawn0.step)⟩
      ·rw [if_neg c6] at H
       exact absurd H (by simp)
     ·rw [if_neg c5] at H
      exact absurd H (by simp)
    ·rw [if_neg c4] at H
     have c4b0 : decide (x5_1 < (l0.length : Int)) = false := decide_eq_false c4
     clear c4
     obtain rfl := Option.some.inj H
     go_wp2
     repeat (go_quiet (fail); try go_wp2)
     go_ret
     exact ⟨by first | rfl | (simp; done) | (simp [*]; done), by repeat (first | exact Drawn0.refl _ | apply Drawn0.step)⟩
 ·rw [if_neg c3] at H
  have c3b0 : ((l0.length : Int) == (l1.length : Int)) = false := beq_eq_false_iff_ne.mpr c3
  have c3b1 : ((l0.length : Int) != (l1.length : Int)) = true := bne_iff_ne.mpr c3
  have c3b2 : (l0.length == l1.length) = false := by first | simpa using c3 | (simp at c3 ⊢; omega)
  obtain rfl := Option.some.inj H
  go_enter Try.func29, Try.ntmps29
  go_wp2
  repeat (go_quiet (fail); try go_wp2)
  go_ret
  exact ⟨by first | rfl | (simp; done) | (simp [*]; done), by repeat (first | exact Drawn0.refl _ | apply Drawn0.step)⟩
theorem laws_sameInts.l0_ev (a : List Int) (ha : a.length ≤ 281474976710656) : ∀ (d i : Nat), i + d = a.length → Ev (fun k => laws_sameInts.l0 k a a (i : Int)) true := by
 intro d
 induction d with
 | zero =>
  intro i hi
  exact Ev.step (fun _ => by rw [laws_sameInts.l0]) (Ev.ng (by omega) (Ev.now _))
 | succ d ih =>
  intro i hi
  refine Ev.step (fun _ => by rw [laws_sameInts.l0]) (Ev.ip (by omega) (Ev.ip (by omega) (Ev.ip (by omega) (Ev.ip (by rfl) ?_))))
  rw [wrap_succ i (by omega)]
  exact ih (i + 1) (by omega)
theorem laws_sameInts.same (a : List Int) (ha : a.length ≤ 281474976710656) : Ev (fun k => laws_sameInts.f k a a) true := Ev.ip rfl (laws_sameInts.l0_ev a ha a.length 0 (Nat.zero_add _))
end Go.Proofs.Ytcjjmfpkhhdmlaa.G


namespace Go.Proofs.Ytcjjmfpkhhdmlaa.G
open Go.RowKit Go.Proofs.YtcjjmfpkhhdmlaaW.PrintWords Go.Proofs.YtcjjmfpkhhdmlaaW.PrintLast Go.Proofs.YtcjjmfpkhhdmlaaW.PrintMore
attribute [local go_sem] max2_int min2_int max_two min_two max_three min_three max_four min_four   -- for this text's walks alone
/-- A state of type 150 at block g of W; what its slices lead to came in by w0. -/
def IsS150 (w0 W : World) (g : Nat) (f0 : List Int) (f1 : Int) (f2 : Int) : Prop := ∃ A0 c0, W.heap[g]? = some (.cells #[.slice A0 f0.length c0, .int .i64 f1, .int .i64 f2] 150 (0, 0)) ∧ w0.heap.size ≤ g ∧ Kd.C (Kd.int .u8) w0 A0 f0.length f0
theorem IsS150.grown {w0 W : World} {g : Nat} {f0 : List Int} {f1 : Int} {f2 : Int} {W1 : World} {row : Option Nat} (h : IsS150 w0 W g f0 f1 f2) (hw : W.grownBy W1 row) (hne : some g ≠ row) : IsS150 w0 W1 g f0 f1 f2 := by
 obtain ⟨A0, c0, hb, hg, hr0⟩ := h
 exact ⟨A0, c0, blk_grown hb hw hne, hg, hr0⟩
theorem IsS150.kept {w0 W : World} {g : Nat} {f0 : List Int} {f1 : Int} {f2 : Int} {W1 : World} {S : Nat → Prop} (h : IsS150 w0 W g f0 f1 f2) (hk : Kept W W1 S) (hne : ¬ S g) : IsS150 w0 W1 g f0 f1 f2 := by
 obtain ⟨A0, c0, hb, hg, hr0⟩ := h
 exact ⟨A0, c0, blk_kept hb hk hne, hg, hr0⟩
theorem IsS150.below {w0 W : World} {g : Nat} {f0 : List Int} {f1 : Int} {f2 : Int} {W1 : World} (h : IsS150 w0 W g f0 f1 f2) (hw : Below W.heap.size W W1) : IsS150 w0 W1 g f0 f1 f2 := h.grown (grown_of_below hw none) (by simp)
theorem IsS150.alloc {w0 W : World} {g : Nat} {f0 : List Int} {f1 : Int} {f2 : Int} (h : IsS150 w0 W g f0 f1 f2) (o : Obj) : IsS150 w0 (W.alloc o) g f0 f1 f2 := h.below (below_alloc (Below.refl _ _) o)
theorem IsS150.drewN {w0 W : World} {g : Nat} {f0 : List Int} {f1 : Int} {f2 : Int} (h : IsS150 w0 W g f0 f1 f2) (m : Nat) : IsS150 w0 (W.drewN m) g f0 f1 f2 := h
theorem IsS150.drew {w0 W : World} {g : Nat} {f0 : List Int} {f1 : Int} {f2 : Int} (h : IsS150 w0 W g f0 f1 f2) : IsS150 w0 W.drew g f0 f1 f2 := h
theorem IsS150.at_ {w0 W : World} {g : Nat} {f0 : List Int} {f1 : Int} {f2 : Int} {w' : World} {m : Nat} (hq : W.drewN m = w') (h : IsS150 w0 W g f0 f1 f2) : IsS150 w0 w' g f0 f1 f2 := by subst hq; exact IsS150.drewN h m
theorem IsS150.apart {w0 W : World} {g : Nat} {f0 : List Int} {f1 : Int} {f2 : Int} {α : Type} {d : Kd α} {e : Nat} {base : Nat} {ok : Nat → Prop} {v : Value} {xs : List α} (h : IsS150 w0 W g f0 f1 f2) (ho : d.R e W base ok v xs) (ht : ∀ q, q ∈ e :: d.E → q ≠ 150) : d.R e W base (fun k => ok k ∧ k ≠ g) v xs := by
 obtain ⟨A0, c0, hb, hg, hr0⟩ := h
 exact Kd.R_types ho hb ht
theorem IsS150.own_ne {w0 W : World} {g : Nat} {f0 : List Int} {f1 : Int} {f2 : Int} {α : Type} {d : Kd α} {e : Nat} {base : Nat} {ok : Nat → Prop} {v : Value} {xs : List α} (h : IsS150 w0 W g f0 f1 f2) (ho : d.R e W base ok v xs) (ht : e ≠ 150) : some g ≠ v.ownBlock := by
 obtain ⟨A0, c0, hb, hg, hr0⟩ := h
 exact Kd.R_ne ho hb ht
theorem IsS150.lt {w0 W : World} {g : Nat} {f0 : List Int} {f1 : Int} {f2 : Int} (h : IsS150 w0 W g f0 f1 f2) : g < W.heap.size := by
 obtain ⟨A0, c0, hb, hg, hr0⟩ := h
 exact blk_lt hb
theorem IsS150.ge {w0 W : World} {g : Nat} {f0 : List Int} {f1 : Int} {f2 : Int} (h : IsS150 w0 W g f0 f1 f2) : w0.heap.size ≤ g := by
 obtain ⟨A0, c0, hb, hg, hr0⟩ := h
 exact hg
theorem IsS150.far {w0 W : World} {g : Nat} {f0 : List Int} {f1 : Int} {f2 : Int} {p : Addr} (h : IsS150 w0 W g f0 f1 f2) (hne : g ≠ p.block) (u : Value) : IsS150 w0 (W.setCell p u) g f0 f1 f2 := by
 obtain ⟨A0, c0, hb, hg, hr0⟩ := h
 exact ⟨A0, c0, blk_far hb hne u, hg, hr0⟩
theorem cellS150_0 {W : World} {g : Nat} {A0 : Option Addr} {c0 : Nat} {f0 : List Int} {f1 : Int} {f2 : Int} (h : W.heap[g]? = some (.cells #[.slice A0 f0.length c0, .int .i64 f1, .int .i64 f2] 150 (0, 0))) : W.cell? ⟨g, 0, none⟩ = some (.slice A0 f0.length c0) := (blk_cell h 0).trans rfl
theorem cellS150_1 {W : World} {g : Nat} {A0 : Option Addr} {c0 : Nat} {f0 : List Int} {f1 : Int} {f2 : Int} (h : W.heap[g]? = some (.cells #[.slice A0 f0.length c0, .int .i64 f1, .int .i64 f2] 150 (0, 0))) : W.cell? ⟨g, 1, none⟩ = some (.int .i64 f1) := (blk_cell h 1).trans rfl
theorem IsS150.set_1 {w0 W : World} {g : Nat} {f0 : List Int} {f1 : Int} {f2 : Int} (h : IsS150 w0 W g f0 f1 f2) (x : Int) : IsS150 w0 (W.setCell ⟨g, 1, none⟩ (.int .i64 x)) g f0 x f2 := by
 obtain ⟨A0, c0, hb, hg, hr0⟩ := h
 exact ⟨A0, c0, by simpa using blk_set hb 1 (.int .i64 x), hg, hr0⟩
theorem cellS150_2 {W : World} {g : Nat} {A0 : Option Addr} {c0 : Nat} {f0 : List Int} {f1 : Int} {f2 : Int} (h : W.heap[g]? = some (.cells #[.slice A0 f0.length c0, .int .i64 f1, .int .i64 f2] 150 (0, 0))) : W.cell? ⟨g, 2, none⟩ = some (.int .i64 f2) := (blk_cell h 2).trans rfl
theorem IsS150.set_2 {w0 W : World} {g : Nat} {f0 : List Int} {f1 : Int} {f2 : Int} (h : IsS150 w0 W g f0 f1 f2) (x : Int) : IsS150 w0 (W.setCell ⟨g, 2, none⟩ (.int .i64 x)) g f0 f1 x := by
 obtain ⟨A0, c0, hb, hg, hr0⟩ := h
 exact ⟨A0, c0, by simpa using blk_set hb 2 (.int .i64 x), hg, hr0⟩
def spec_l01Open.f (l0 : List Int) : Option (List Int × Int × Int) := some (l0, 0, 13 + ((l0.length : Int) % 1000))
set_option maxHeartbeats 8000000 in
set_option maxRecDepth 100000 in
theorem spec_l01Open.calls (A0 : Option Addr) (c0 : Nat) (l0 : List Int) (r1 : List Int) (r2 : Int) (r3 : Int) (w0 w : World) (hB : Below w0.heap.size w0 w) (hr0 : Kd.C (Kd.int .u8) w0 A0 l0.length l0) (hc0 : l0.length ≤ c0) (h : spec_l01Open.f l0 = some (r1, r2, r3)) :
  Calls Try.prog 84 #[.slice A0 l0.length c0] w fun e w' => ∃ g_ : Nat, e = .returned (.pointer (some ⟨g_, 0, none⟩)) ∧ IsS150 w0 w' g_ r1 r2 r3 ∧ Below w0.heap.size w0 w' ∧ Below w.heap.size w w' := by
 have hu150 := Try.underlying150
 have HR0 := Aside0.mk hr0
 have HC0 := Aside0.mk hc0
 clear hr0 hc0
 have HBW := Aside0.mk (Below.refl w.heap.size w)
 have HW0 := Aside0.mk hB.size
 have HB := Aside0.mk hB
 clear hB
 have H : (some (l0, 0, 13 + ((l0.length : Int) % 1000))) = some (r1, r2, r3) := h
 clear h
 simp only [Option.some.injEq, Prod.mk.injEq] at H
 obtain ⟨rfl, rfl, rfl⟩ := H
 go_enter Try.func84, Try.ntmps84
 go_wp2_with (first | ((with_reducible refine gate_dst (N := 9) rfl ?_); refine box_event ?hg (N := 9) ?hd (cs := #[.slice A0 l0.length c0, .int .i64 0, .int .i64 (13 + ((l0.length : Int) % 1000))]) (t := 150) ?hr ?_; (case hd => rfl); (case hg => rfl); (case hr => first | (go_simp; done) | (go_simp; rfl)); intro gb149 hg w2 hbox hb; have n0_ := Aside0.mk (below_step HBW.out hb); have n1_ := Aside0.mk (below_step (by repeat (first | (with_reducible first | exact HB.out | apply below_alloc | apply pw_below_drewN | apply below_drew1) | exact HB.out)) hb); have n2_ := Aside0.mk (hbox); have n3_ := Aside0.mk ((by rw [hg]; exact (below_size (by repeat (first | (with_reducible first | exact HBW.out | apply below_alloc | apply pw_below_drewN | apply below_drew1) | exact HBW.out))) : w.heap.size ≤ gb149)); have n4_ := Aside0.mk ((Nat.le_trans HW0.out (by rw [hg]; exact (below_size (by repeat (first | (with_reducible first | exact HBW.out | apply below_alloc | apply pw_below_drewN | apply below_drew1) | exact HBW.out))) : w.heap.size ≤ gb149) : w0.heap.size ≤ gb149)); clear HBW; clear HB; have HBW := n0_; have HB := n1_; have BK149 := n2_; have GW149 := n3_; have GE149 := n4_; clear n0_ n1_ n2_ n3_ n4_; clear hb hbox hg))
 go_ret
 exact ⟨_, rfl, (show IsS150 w0 _ gb149 l0 0 (13 + ((l0.length : Int) % 1000)) from ⟨_, _, by (with_reducible repeat (first | refine blk_drewN ?_ _ | refine blk_drew ?_ | refine blk_alloc ?_ _)); exact BK149.out, GE149.out, HR0.out⟩), by repeat (first | (with_reducible first | exact HB.out | apply below_alloc | apply pw_below_drewN | apply below_drew1 | refine below_set ?_ GE149.out) | exact HB.out), by repeat (first | (with_reducible first | exact HBW.out | apply below_alloc | apply pw_below_drewN | apply below_drew1 | refine below_set ?_ GW149.out) | exact HBW.out)⟩
end Go.Proofs.Ytcjjmfpkhhdmlaa.G


namespace Go.Proofs.Ytcjjmfpkhhdmlaa.G
open Go.RowKit Go.Proofs.YtcjjmfpkhhdmlaaW.PrintWords Go.Proofs.YtcjjmfpkhhdmlaaW.PrintLast Go.Proofs.YtcjjmfpkhhdmlaaW.PrintMore
attribute [local go_sem] max2_int min2_int max_two min_two max_three min_three max_four min_four   -- for this text's walks alone
def spec_l01Cur_pick.f (s0_0 : List Int) (s0_1 : Int) (s0_2 : Int) (a1 : Int) : Option (Int × Int × Int) := if a1 < 2 then (some (0, s0_1, s0_2)) else (if s0_1 < (s0_0.length : Int) then (if 0 ≤ s0_1 then (if a1 > 256 then (if (wrap64 (s0_1 + 1)) < (s0_0.length : Int) then (if 0 ≤ (wrap64 (s0_1 + 1)) then (if a1 = 0 then (none) else (some (Int.tmod (wrap64 ((wrap64 (256 * (wrap64 (rd s0_0 s0_1)))) + (wrap64 (rd s0_0 (wrap64 (s0_1 + 1)))))) a1, wrap64 ((wrap64 (s0_1 + 1)) + 1), s0_2))) else (none)) else (if a1 = 0 then (none) else (some (Int.tmod (wrap64 (rd s0_0 s0_1)) a1, wrap64 (s0_1 + 1), s0_2)))) else (if a1 = 0 then (none) else (some (Int.tmod (wrap64 (rd s0_0 s0_1)) a1, wrap64 (s0_1 + 1), s0_2)))) else (none)) else (if (s0_0.length : Int) > 0 then (if (s0_0.length : Int) = 0 then (none) else (if 0 ≤ (Int.tmod s0_1 (s0_0.length : Int)) then (if (Int.tmod s0_1 (s0_0.length : Int)) < (s0_0.length : Int) then (if a1 = 0 then (none) else (some (Int.tmod (wrap64 ((wrap64 (Int.tdiv (Int.tmod (wrap64 ((wrap64 (s0_2 * 1103)) + 12345)) 65521) 3)) + (wrap64 (rd s0_0 (Int.tmod s0_1 (s0_0.length : Int)))))) a1, wrap64 (s0_1 + 1), Int.tmod (wrap64 ((wrap64 (s0_2 * 1103)) + 12345)) 65521))) else (none)) else (none))) else (if a1 = 0 then (none) else (some (Int.tmod (wrap64 (Int.tdiv (Int.tmod (wrap64 ((wrap64 (s0_2 * 1103)) + 12345)) 65521) 3)) a1, wrap64 (s0_1 + 1), Int.tmod (wrap64 ((wrap64 (s0_2 * 1103)) + 12345)) 65521)))))
set_option maxHeartbeats 8000000 in
set_option maxRecDepth 100000 in
theorem spec_l01Cur_pick.calls (g : Nat) (s0_0 : List Int) (s0_1 : Int) (s0_2 : Int) (a1 : Int) (r1 : Int) (r2 : Int) (r3 : Int) (w0 w : World) (hI : IsS150 w0 w g s0_0 s0_1 s0_2) (hB : Below w0.heap.size w0 w) (h : spec_l01Cur_pick.f s0_0 s0_1 s0_2 a1 = some (r1, r2, r3)) :
  Calls Try.prog 85 #[.pointer (some ⟨g, 0, none⟩), .int .i64 a1] w fun e w' => e = .returned (.int .i64 r1) ∧ IsS150 w0 w' g s0_0 r2 r3 ∧ Below w0.heap.size w0 w' ∧ KeepBut w w' g none := by
 have HI0 := Aside0.mk hI
 have HK := Aside0.mk (KeepBut.refl w g none)
 have HL := Aside0.mk hB.size
 clear hI
 have HW0 := Aside0.mk hB.size
 have HB := Aside0.mk hB
 clear hB
 have H : (if a1 < 2 then (some (0, s0_1, s0_2)) else (if s0_1 < (s0_0.length : Int) then (if 0 ≤ s0_1 then (if a1 > 256 then (if (wrap64 (s0_1 + 1)) < (s0_0.length : Int) then (if 0 ≤ (wrap64 (s0_1 + 1)) then (if a1 = 0 then (none) else (some (Int.tmod (wrap64 ((wrap64 (256 * (wrap64 (rd s0_0 s0_1)))) + (wrap64 (rd s0_0 (wrap64 (s0_1 + 1)))))) a1, wrap64 ((wrap64 (s0_1 + 1)) + 1), s0_2))) else (none)) else (if a1 = 0 then (none) else (some (Int.tmod (wrap64 (rd s0_0 s0_1)) a1, wrap64 (s0_1 + 1), s0_2)))) else (if a1 = 0 then (none) else (some (Int.tmod (wrap64 (rd s0_0 s0_1)) a1, wrap64 (s0_1 + 1), s0_2)))) else (none)) else (if (s0_0.length : Int) > 0 then (if (s0_0.length : Int) = 0 then (none) else (if 0 ≤ (Int.tmod s0_1 (s0_0.length : Int)) then (if (Int.tmod s0_1 (s0_0.length : Int)) < (s0_0.length : Int) then (if a1 = 0 then (none) else (some (Int.tmod (wrap64 ((wrap64 (Int.tdiv (Int.tmod (wrap64 ((wrap64 (s0_2 * 1103)) + 12345)) 65521) 3)) + (wrap64 (rd s0_0 (Int.tmod s0_1 (s0_0.length : Int)))))) a1, wrap64 (s0_1 + 1), Int.tmod (wrap64 ((wrap64 (s0_2 * 1103)) + 12345)) 65521))) else (none)) else (none))) else (if a1 = 0 then (none) else (some (Int.tmod (wrap64 (Int.tdiv (Int.tmod (wrap64 ((wrap64 (s0_2 * 1103)) + 12345)) 65521) 3)) a1, wrap64 (s0_1 + 1), Int.tmod (wrap64 ((wrap64 (s0_2 * 1103)) + 12345)) 65521)))))) = some (r1, r2, r3) := h
 clear h
 by_cases c3 : a1 < 2
 ·rw [if_pos c3] at H
  have c3b0 : decide (a1 < 2) = true := decide_eq_true c3
  clear c3
  simp only [Option.some.injEq, Prod.mk.injEq] at H
  obtain ⟨rfl, rfl, rfl⟩ := H
  go_enter Try.func85, Try.ntmps85
  go_wp2
  repeat (go_quiet (fail); try go_wp2)
  go_ret
  exact ⟨by first | rfl | (simp [errW_none, errW_some] <;> rfl) | (simp [*, errW_none, errW_some] <;> rfl), by repeat (first | (with_reducible first | exact HI0.out | apply IsS150.alloc | apply IsS150.drewN | apply IsS150.drew | apply IsS150.set_1 | apply IsS150.set_2) | exact HI0.out), by repeat (first | (with_reducible first | exact HB.out | apply below_alloc | apply pw_below_drewN | apply below_drew1 | refine below_set ?_ (IsS150.ge HI0.out)) | exact HB.out), by repeat (first | (with_reducible first | exact HK.out | apply KeepBut.set_ | apply keep_drewN | apply keep_drew | apply keep_alloc) | exact HK.out)⟩
 ·rw [if_neg c3] at H
  have c3b0 : decide (a1 < 2) = false := decide_eq_false c3
  clear c3
  by_cases c4 : s0_1 < (s0_0.length : Int)
  ·rw [if_pos c4] at H
   have c4b0 : decide (s0_1 < (s0_0.length : Int)) = true := decide_eq_true c4
   clear c4
   by_cases c5 : 0 ≤ s0_1
   ·rw [if_pos c5] at H
    have c5b0 : decide (0 ≤ s0_1) = true := decide_eq_true c5
    clear c5
    by_cases c6 : a1 > 256
    ·rw [if_pos c6] at H
     have c6b0 : decide (256 < a1) = true := decide_eq_true c6
     clear c6
     by_cases c7 : (wrap64 (s0_1 + 1)) < (s0_0.length : Int)
     ·rw [if_pos c7] at H
      have c7b0 : decide ((wrap64 (s0_1 + 1)) < (s0_0.length : Int)) = true := decide_eq_true c7
      clear c7
      obtain ⟨ji8, hji8⟩ : ∃ j_ : Int, (wrap64 (s0_1 + 1)) = j_ := ⟨_, rfl⟩
      replace H : (if 0 ≤ (ji8) then (if a1 = 0 then (none) else (some (Int.tmod (wrap64 ((wrap64 (256 * (wrap64 (rd s0_0 s0_1)))) + (wrap64 (rd s0_0 (ji8))))) a1, wrap64 ((ji8) + 1), s0_2))) else (none)) = some (r1, r2, r3) := by first | (rw [hji8] at H; exact H) | (simp only [hji8] at H ⊢; exact H)
      (try rw [hji8] at c7b0)
      have hji8w : (IntKind.i64.wrap (s0_1 + 1)) = ji8 := (i64_w _).trans hji8
      by_cases c9 : 0 ≤ (ji8)
      ·rw [if_pos c9] at H
       have c9b0 : decide (0 ≤ (ji8)) = true := decide_eq_true c9
       clear c9
       by_cases c10 : a1 = 0
       ·rw [if_pos c10] at H
        exact absurd H (by simp)
       ·rw [if_neg c10] at H
        have c10b0 : (a1 == 0) = false := beq_eq_false_iff_ne.mpr c10
        have c10b1 : (a1 != 0) = true := bne_iff_ne.mpr c10
        simp only [Option.some.injEq, Prod.mk.injEq] at H
        obtain ⟨rfl, rfl, rfl⟩ := H
        obtain ⟨ASz11_0, cSz11_0, HGz11, hgz11, HSz11_0⟩ := HI0.out
        have hcz11_0 := cellS150_0 HGz11
        have hcz11_1 := cellS150_1 HGz11
        have hcz11_2 := cellS150_2 HGz11
        have hfz11_1 := blk_frozen HGz11 1
        have hfz11_2 := blk_frozen HGz11 2
        clear HGz11 hgz11
        have p150 : 0 ≤ (s0_1 : Int) := of_decide_eq_true (by first | (with_reducible assumption) | assumption)
        have q150 : s0_1 < (s0_0.length : Int) := of_decide_eq_true (by first | (with_reducible assumption) | assumption)
        obtain ⟨ad150, e150, hx150_0⟩ := Kd.at_int HSz11_0 s0_1 p150 q150
        cases e150
        replace hx150_0 := pw_cell_below HB.out hx150_0
        replace p150 := eq_true p150
        replace q150 := eq_true q150
        have p151 : 0 ≤ ((ji8) : Int) := of_decide_eq_true (by first | (with_reducible assumption) | assumption)
        have q151 : (ji8) < (s0_0.length : Int) := of_decide_eq_true (by first | (with_reducible assumption) | assumption)
        obtain ⟨ad151, e151, hx151_0⟩ := Kd.at_int HSz11_0 (ji8) p151 q151
        obtain rfl : ad150 = ad151 := (by injection e151)
        have hn151_0 : ad150.block ≠ g := Nat.ne_of_lt (Nat.lt_of_lt_of_le (by have := World.block_lt_of_cell? _ _ hx151_0; first | rwa [add_block] at this | exact this) (IsS150.ge HI0.out))
        replace hx151_0 := pw_cell_below HB.out hx151_0
        replace hx151_0 := (cell_far (p := ⟨g, 1, none⟩) (by first | (rw [add_block]; exact hn151_0) | (show (Addr.add _ _).block ≠ _; rw [add_block]; exact hn151_0) | exact hn151_0) (.int .i64 ji8)).trans hx151_0
        (try have hy151_0 := fun (n_ : Nat) => (show (((w.drewN n_).setCell ⟨g, 1, none⟩ (.int .i64 ji8))).cell? _ = some _ from hx151_0))
        clear hn151_0
        replace p151 := eq_true p151
        replace q151 := eq_true q151
        go_enter Try.func85, Try.ntmps85
        go_wp2
        repeat (go_quiet (fail); try go_wp2)
        go_ret
        exact ⟨by first | rfl | (simp [errW_none, errW_some] <;> rfl) | (simp only [← hji8]; first | rfl | (simp [errW_none, errW_some] <;> rfl)) | (simp [*, errW_none, errW_some] <;> rfl), by repeat (first | (with_reducible first | exact HI0.out | apply IsS150.alloc | apply IsS150.drewN | apply IsS150.drew | apply IsS150.set_1 | apply IsS150.set_2) | exact HI0.out), by repeat (first | (with_reducible first | exact HB.out | apply below_alloc | apply pw_below_drewN | apply below_drew1 | refine below_set ?_ (IsS150.ge HI0.out)) | exact HB.out), by repeat (first | (with_reducible first | exact HK.out | apply KeepBut.set_ | apply keep_drewN | apply keep_drew | apply keep_alloc) | exact HK.out)⟩
      ·rw [if_neg c9] at H
       exact absurd H (by simp)
     ·rw [if_neg c7] at H
      have c7b0 : decide ((wrap64 (s0_1 + 1)) < (s0_0.length : Int)) = false := decide_eq_false c7
      clear c7
      by_cases c12 : a1 = 0
      ·rw [if_pos c12] at H
       exact absurd H (by simp)
      ·rw [if_neg c12] at H
       have c12b0 : (a1 == 0) = false := beq_eq_false_iff_ne.mpr c12
       have c12b1 : (a1 != 0) = true := bne_iff_ne.mpr c12
       simp only [Option.some.injEq, Prod.mk.injEq] at H
       obtain ⟨rfl, rfl, rfl⟩ := H
       obtain ⟨ASz13_0, cSz13_0, HGz13, hgz13, HSz13_0⟩ := HI0.out
       have hcz13_0 := cellS150_0 HGz13
       have hcz13_1 := cellS150_1 HGz13
       have hcz13_2 := cellS150_2 HGz13
       have hfz13_1 := blk_frozen HGz13 1
       have hfz13_2 := blk_frozen HGz13 2
       clear HGz13 hgz13
       have p150 : 0 ≤ (s0_1 : Int) := of_decide_eq_true (by first | (with_reducible assumption) | assumption)
       have q150 : s0_1 < (s0_0.length : Int) := of_decide_eq_true (by first | (with_reducible assumption) | assumption)
       obtain ⟨ad150, e150, hx150_0⟩ := Kd.at_int HSz13_0 s0_1 p150 q150
       cases e150
       replace hx150_0 := pw_cell_below HB.out hx150_0
       replace p150 := eq_true p150
       replace q150 := eq_true q150
       go_enter Try.func85, Try.ntmps85
       go_wp2
       repeat (go_quiet (fail); try go_wp2)
       go_ret
       exact ⟨by first | rfl | (simp [errW_none, errW_some] <;> rfl) | (simp [*, errW_none, errW_some] <;> rfl), by repeat (first | (with_reducible first | exact HI0.out | apply IsS150.alloc | apply IsS150.drewN | apply IsS150.drew | apply IsS150.set_1 | apply IsS150.set_2) | exact HI0.out), by repeat (first | (with_reducible first | exact HB.out | apply below_alloc | apply pw_below_drewN | apply below_drew1 | refine below_set ?_ (IsS150.ge HI0.out)) | exact HB.out), by repeat (first | (with_reducible first | exact HK.out | apply KeepBut.set_ | apply keep_drewN | apply keep_drew | apply keep_alloc) | exact HK.out)⟩
    ·rw [if_neg c6] at H
     have c6b0 : decide (256 < a1) = false := decide_eq_false c6
     clear c6
     by_cases c14 : a1 = 0
     ·rw [if_pos c14] at H
      exact absurd H (by simp)
     ·rw [if_neg c14] at H
      have c14b0 : (a1 == 0) = false := beq_eq_false_iff_ne.mpr c14
      have c14b1 : (a1 != 0) = true := bne_iff_ne.mpr c14
      simp only [Option.some.injEq, Prod.mk.injEq] at H
      obtain ⟨rfl, rfl, rfl⟩ := H
      obtain ⟨ASz15_0, cSz15_0, HGz15, hgz15, HSz15_0⟩ := HI0.out
      have hcz15_0 := cellS150_0 HGz15
      have hcz15_1 := cellS150_1 HGz15
      have hcz15_2 := cellS150_2 HGz15
      have hfz15_1 := blk_frozen HGz15 1
      have hfz15_2 := blk_frozen HGz15 2
      clear HGz15 hgz15
      have p150 : 0 ≤ (s0_1 : Int) := of_decide_eq_true (by first | (with_reducible assumption) | assumption)
      have q150 : s0_1 < (s0_0.length : Int) := of_decide_eq_true (by first | (with_reducible assumption) | assumption)
      obtain ⟨ad150, e150, hx150_0⟩ := Kd.at_int HSz15_0 s0_1 p150 q150
      cases e150
      replace hx150_0 := pw_cell_below HB.out hx150_0
      replace p150 := eq_true p150
      replace q150 := eq_true q150
      go_enter Try.func85, Try.ntmps85
      go_wp2
      repeat (go_quiet (fail); try go_wp2)
      go_ret
      exact ⟨by first | rfl | (simp [errW_none, errW_some] <;> rfl) | (simp [*, errW_none, errW_some] <;> rfl), by repeat (first | (with_reducible first | exact HI0.out | apply IsS150.alloc | apply IsS150.drewN | apply IsS150.drew | apply IsS150.set_1 | apply IsS150.set_2) | exact HI0.out), by repeat (first | (with_reducible first | exact HB.out | apply below_alloc | apply pw_below_drewN | apply below_drew1 | refine below_set ?_ (IsS150.ge HI0.out)) | exact HB.out), by repeat (first | (with_reducible first | exact HK.out | apply KeepBut.set_ | apply keep_drewN | apply keep_drew | apply keep_alloc) | exact HK.out)⟩
   ·rw [if_neg c5] at H
    exact absurd H (by simp)
  ·rw [if_neg c4] at H
   have c4b0 : decide (s0_1 < (s0_0.length : Int)) = false := decide_eq_false c4
   clear c4
   by_cases c16 : (s0_0.length : Int) > 0
   ·rw [if_pos c16] at H
    have c16b0 : decide (0 < (s0_0.length : Int)) = true := decide_eq_true c16
    have c16b1 : decide (0 < s0_0.length) = true := decide_eq_true (by omega)
    clear c16
    by_cases c17 : (s0_0.length : Int) = 0
    ·rw [if_pos c17] at H
     exact absurd H (by simp)
    ·rw [if_neg c17] at H
     have c17b0 : ((s0_0.length : Int) == 0) = false := beq_eq_false_iff_ne.mpr c17
     have c17b1 : ((s0_0.length : Int) != 0) = true := bne_iff_ne.mpr c17
     have c17b2 : ¬ (s0_0 = []) := fun h_ => c17 (by rw [h_]; rfl)
     obtain ⟨ji18, hji18⟩ : ∃ j_ : Int, (Int.tmod s0_1 (s0_0.length : Int)) = j_ := ⟨_, rfl⟩
     replace H : (if 0 ≤ (ji18) then (if (ji18) < (s0_0.length : Int) then (if a1 = 0 then (none) else (some (Int.tmod (wrap64 ((wrap64 (Int.tdiv (Int.tmod (wrap64 ((wrap64 (s0_2 * 1103)) + 12345)) 65521) 3)) + (wrap64 (rd s0_0 (ji18))))) a1, wrap64 (s0_1 + 1), Int.tmod (wrap64 ((wrap64 (s0_2 * 1103)) + 12345)) 65521))) else (none)) else (none)) = some (r1, r2, r3) := by first | (rw [hji18] at H; exact H) | (simp only [hji18] at H ⊢; exact H)
     by_cases c19 : 0 ≤ (ji18)
     ·rw [if_pos c19] at H
      have c19b0 : decide (0 ≤ (ji18)) = true := decide_eq_true c19
      clear c19
      by_cases c20 : (ji18) < (s0_0.length : Int)
      ·rw [if_pos c20] at H
       have c20b0 : decide ((ji18) < (s0_0.length : Int)) = true := decide_eq_true c20
       clear c20
       by_cases c21 : a1 = 0
       ·rw [if_pos c21] at H
        exact absurd H (by simp)
       ·rw [if_neg c21] at H
        have c21b0 : (a1 == 0) = false := beq_eq_false_iff_ne.mpr c21
        have c21b1 : (a1 != 0) = true := bne_iff_ne.mpr c21
        simp only [Option.some.injEq, Prod.mk.injEq] at H
        obtain ⟨rfl, rfl, rfl⟩ := H
        obtain ⟨ASz22_0, cSz22_0, HGz22, hgz22, HSz22_0⟩ := HI0.out
        have hcz22_0 := cellS150_0 HGz22
        have hcz22_1 := cellS150_1 HGz22
        have hcz22_2 := cellS150_2 HGz22
        have hfz22_1 := blk_frozen HGz22 1
        have hfz22_2 := blk_frozen HGz22 2
        clear HGz22 hgz22
        have p152 : 0 ≤ ((ji18) : Int) := of_decide_eq_true (by first | (with_reducible assumption) | assumption)
        have q152 : (ji18) < (s0_0.length : Int) := of_decide_eq_true (by first | (with_reducible assumption) | assumption)
        obtain ⟨ad152, e152, hx152_0⟩ := Kd.at_int HSz22_0 (ji18) p152 q152
        cases e152
        have hn152_0 : ad152.block ≠ g := Nat.ne_of_lt (Nat.lt_of_lt_of_le (by have := World.block_lt_of_cell? _ _ hx152_0; first | rwa [add_block] at this | exact this) (IsS150.ge HI0.out))
        replace hx152_0 := pw_cell_below HB.out hx152_0
        replace hx152_0 := (cell_far (p := ⟨g, 2, none⟩) (by first | (rw [add_block]; exact hn152_0) | (show (Addr.add _ _).block ≠ _; rw [add_block]; exact hn152_0) | exact hn152_0) (.int .i64 (Int.tmod (wrap64 ((wrap64 (s0_2 * 1103)) + 12345)) 65521))).trans hx152_0
        (try have hy152_0 := fun (n_ : Nat) => (show (((w.drewN n_).setCell ⟨g, 2, none⟩ (.int .i64 (Int.tmod (wrap64 ((wrap64 (s0_2 * 1103)) + 12345)) 65521)))).cell? _ = some _ from hx152_0))
        clear hn152_0
        replace p152 := eq_true p152
        replace q152 := eq_true q152
        go_enter Try.func85, Try.ntmps85
        go_wp2
        repeat (go_quiet (fail); try go_wp2)
        go_ret
        exact ⟨by first | rfl | (simp [errW_none, errW_some] <;> rfl) | (simp only [← hji18]; first | rfl | (simp [errW_none, errW_some] <;> rfl)) | (simp [*, errW_none, errW_some] <;> rfl), by repeat (first | (with_reducible first | exact HI0.out | apply IsS150.alloc | apply IsS150.drewN | apply IsS150.drew | apply IsS150.set_1 | apply IsS150.set_2) | exact HI0.out), by repeat (first | (with_reducible first | exact HB.out | apply below_alloc | apply pw_below_drewN | apply below_drew1 | refine below_set ?_ (IsS150.ge HI0.out)) | exact HB.out), by repeat (first | (with_reducible first | exact HK.out | apply KeepBut.set_ | apply keep_drewN | apply keep_drew | apply keep_alloc) | exact HK.out)⟩
      ·rw [if_neg c20] at H
       exact absurd H (by simp)
     ·rw [if_neg c19] at H
      exact absurd H (by simp)
   ·rw [if_neg c16] at H
    have c16b0 : decide (0 < (s0_0.length : Int)) = false := decide_eq_false c16
    have c16b1 : decide (0 < s0_0.length) = false := decide_eq_false (by omega)
    clear c16
    by_cases c23 : a1 = 0
    ·rw [if_pos c23] at H
     exact absurd H (by simp)
    ·rw [if_neg c23] at H
     have c23b0 : (a1 == 0) = false := beq_eq_false_iff_ne.mpr c23
     have c23b1 : (a1 != 0) = true := bne_iff_ne.mpr c23
     simp only [Option.some.injEq, Prod.mk.injEq] at H
     obtain ⟨rfl, rfl, rfl⟩ := H
     obtain ⟨ASz24_0, cSz24_0, HGz24, hgz24, HSz24_0⟩ := HI0.out
     have hcz24_0 := cellS150_0 HGz24
     have hcz24_1 := cellS150_1 HGz24
     have hcz24_2 := cellS150_2 HGz24
     have hfz24_1 := blk_frozen HGz24 1
     have hfz24_2 := blk_frozen HGz24 2
     clear HGz24 hgz24
     go_enter Try.func85, Try.ntmps85
     go_wp2
     repeat (go_quiet (fail); try go_wp2)
     go_ret
     exact ⟨by first | rfl | (simp [errW_none, errW_some] <;> rfl) | (simp [*, errW_none, errW_some] <;> rfl), by repeat (first | (with_reducible first | exact HI0.out | apply IsS150.alloc | apply IsS150.drewN | apply IsS150.drew | apply IsS150.set_1 | apply IsS150.set_2) | exact HI0.out), by repeat (first | (with_reducible first | exact HB.out | apply below_alloc | apply pw_below_drewN | apply below_drew1 | refine below_set ?_ (IsS150.ge HI0.out)) | exact HB.out), by repeat (first | (with_reducible first | exact HK.out | apply KeepBut.set_ | apply keep_drewN | apply keep_drew | apply keep_alloc) | exact HK.out)⟩
/-- a byte, or a nought beyond -/
theorem rd_byte (c : List Int) (hc : ∀ x ∈ c, 0 ≤ x ∧ x ≤ 255) (i : Int) : 0 ≤ rd c i ∧ rd c i ≤ 255 := by
 unfold rd
 rcases Nat.lt_or_ge i.toNat c.length with h | h
 ·rw [List.getD_eq_getElem?_getD, List.getElem?_eq_getElem h, Option.getD_some]
  exact hc _ (List.getElem_mem h)
 ·rw [List.getD_eq_getElem?_getD, List.getElem?_eq_none h, Option.getD_none]
  omega
theorem spec_l01Cur_pick.val (c : List Int) (hc : ∀ x ∈ c, 0 ≤ x ∧ x ≤ 255) (hl : c.length ≤ 1048576) (a s n : Int) (ha : 0 ≤ a) (ha2 : a ≤ 1000000000000) (hs0 : 0 ≤ s) (hs1 : s ≤ 65536) :
  ∃ x a' s', spec_l01Cur_pick.f c a s n = some (x, a', s') ∧ 0 ≤ x ∧ (x < n ∨ (n < 2 ∧ x = 0)) ∧ a ≤ a' ∧ a' ≤ a + 2 ∧ 0 ≤ s' ∧ s' ≤ 65536 := by
 unfold spec_l01Cur_pick.f
 by_cases h2 : n < 2
 ·rw [if_pos h2]
  exact ⟨0, a, s, rfl, by omega, by omega, by omega, by omega, by omega, by omega⟩
 ·rw [if_neg h2]
  have tm : ∀ x : Int, 0 ≤ x → 0 ≤ Int.tmod x n ∧ Int.tmod x n < n := fun x hx => ⟨Int.tmod_nonneg _ hx, Int.tmod_lt_of_pos _ (by omega)⟩
  have n0 : ¬ n = 0 := by omega
  have b1 := rd_byte c hc a
  have b2 := rd_byte c hc (a + 1)
  rw [wrap_in (a + 1) (by omega) (by omega)]
  by_cases h3 : a < c.length
  ·rw [if_pos h3, if_pos ha, wrap_in (rd c a) (by omega) (by omega), wrap_in (256 * rd c a) (by omega) (by omega), wrap_in (rd c (a + 1)) (by omega) (by omega), wrap_in (256 * rd c a + rd c (a + 1)) (by omega) (by omega), wrap_in (a + 1 + 1) (by omega) (by omega), if_neg n0, if_neg n0]
   have t1 := tm (256 * rd c a + rd c (a + 1)) (by omega)
   have t2 := tm (rd c a) (by omega)
   by_cases h4 : n > 256
   ·rw [if_pos h4]
    by_cases h5 : a + 1 < c.length
    ·rw [if_pos h5, if_pos (by omega)]
     exact ⟨_, _, _, rfl, t1.1, .inl t1.2, by omega, by omega, by omega, by omega⟩
    ·rw [if_neg h5]
     exact ⟨_, _, _, rfl, t2.1, .inl t2.2, by omega, by omega, by omega, by omega⟩
   ·rw [if_neg h4]
    exact ⟨_, _, _, rfl, t2.1, .inl t2.2, by omega, by omega, by omega, by omega⟩
  ·rw [if_neg h3, wrap_in (s * 1103) (by omega) (by omega), wrap_in (s * 1103 + 12345) (by omega) (by omega)]
   have q0 : 0 ≤ Int.tmod (s * 1103 + 12345) 65521 := Int.tmod_nonneg _ (by omega)
   have q1 : Int.tmod (s * 1103 + 12345) 65521 < 65521 := Int.tmod_lt_of_pos _ (by omega)
   generalize Int.tmod (s * 1103 + 12345) 65521 = s' at q0 q1 ⊢
   have q2 : 0 ≤ Int.tdiv s' 3 := Int.tdiv_nonneg q0 (by omega)
   have q3 : Int.tdiv s' 3 ≤ s' := Int.tdiv_le_self _ q0
   generalize Int.tdiv s' 3 = z at q2 q3 ⊢
   rw [wrap_in z (by omega) (by omega), if_neg n0, if_neg n0]
   by_cases h6 : (c.length : Int) > 0
   ·have t3 : 0 ≤ Int.tmod a c.length ∧ Int.tmod a c.length < c.length := ⟨Int.tmod_nonneg _ ha, Int.tmod_lt_of_pos _ h6⟩
    have b3 := rd_byte c hc (Int.tmod a c.length)
    rw [if_pos h6, if_neg (by omega), if_pos t3.1, if_pos t3.2, wrap_in (rd c (Int.tmod a c.length)) (by omega) (by omega), wrap_in (z + rd c (Int.tmod a c.length)) (by omega) (by omega)]
    have t4 := tm (z + rd c (Int.tmod a c.length)) (by omega)
    exact ⟨_, _, _, rfl, t4.1, .inl t4.2, by omega, by omega, by omega, by omega⟩
   ·rw [if_neg h6]
    have t4 := tm z q2
    exact ⟨_, _, _, rfl, t4.1, .inl t4.2, by omega, by omega, by omega, by omega⟩
end Go.Proofs.Ytcjjmfpkhhdmlaa.G


namespace Go.Proofs.Ytcjjmfpkhhdmlaa.G
open Go.RowKit Go.Proofs.YtcjjmfpkhhdmlaaW.PrintWords Go.Proofs.YtcjjmfpkhhdmlaaW.PrintLast Go.Proofs.YtcjjmfpkhhdmlaaW.PrintMore
attribute [local go_sem] max2_int min2_int max_two min_two max_three min_three max_four min_four   -- for this text's walks alone
def spec_l01Cur_odd.f (s0_0 : List Int) (s0_1 : Int) (s0_2 : Int) : Option (Int × Int × Int) := (some (([(-1), 0, 1, 2, 255, 256, 65535, 9223372036854775807, (-9223372036854775808), 17, 8, 12] : List Int) : List Int)).bind fun y156 => ((spec_l01Cur_pick.f s0_0 s0_1 s0_2 12).bind fun bt159 => (if 0 ≤ bt159.1 then (if bt159.1 < (y156.length : Int) then (some (rd y156 bt159.1, bt159.2.1, bt159.2.2)) else (none)) else (none)))
set_option maxHeartbeats 8000000 in
set_option maxRecDepth 100000 in
theorem spec_l01Cur_odd.calls (g : Nat) (s0_0 : List Int) (s0_1 : Int) (s0_2 : Int) (r1 : Int) (r2 : Int) (r3 : Int) (w0 w : World) (hI : IsS150 w0 w g s0_0 s0_1 s0_2) (hB : Below w0.heap.size w0 w) (h : spec_l01Cur_odd.f s0_0 s0_1 s0_2 = some (r1, r2, r3)) :
  Calls Try.prog 114 #[.pointer (some ⟨g, 0, none⟩)] w fun e w' => e = .returned (.int .i64 r1) ∧ IsS150 w0 w' g s0_0 r2 r3 ∧ Below w0.heap.size w0 w' ∧ KeepBut w w' g none := by
 have HI0 := Aside0.mk hI
 have HK := Aside0.mk (KeepBut.refl w g none)
 have HL := Aside0.mk hB.size
 clear hI
 have HW0 := Aside0.mk hB.size
 have HB := Aside0.mk hB
 clear hB
 have H : ((some (([(-1), 0, 1, 2, 255, 256, 65535, 9223372036854775807, (-9223372036854775808), 17, 8, 12] : List Int) : List Int)).bind fun y156 => ((spec_l01Cur_pick.f s0_0 s0_1 s0_2 12).bind fun bt159 => (if 0 ≤ bt159.1 then (if bt159.1 < (y156.length : Int) then (some (rd y156 bt159.1, bt159.2.1, bt159.2.2)) else (none)) else (none)))) = some (r1, r2, r3) := h
 clear h
 obtain ⟨y156, hy156⟩ : ∃ y_ : List Int, y_ = (([(-1), 0, 1, 2, 255, 256, 65535, 9223372036854775807, (-9223372036854775808), 17, 8, 12] : List Int)) := ⟨_, rfl⟩
 replace H : ((spec_l01Cur_pick.f s0_0 s0_1 s0_2 12).bind fun bt159 => (if 0 ≤ bt159.1 then (if bt159.1 < (y156.length : Int) then (some (rd y156 bt159.1, bt159.2.1, bt159.2.2)) else (none)) else (none))) = some (r1, r2, r3) := by first | (rw [hy156]; with_reducible exact H) | (have H2_ := (Option.bind_some _ _).symm.trans H; rw [hy156]; with_reducible exact H2_) | (have H2_ := (Option.bind_some _ _).symm.trans H; with_reducible exact H2_) | with_reducible exact H | (rw [hy156]; exact H) | exact H
 have Ny156 := Aside0.mk hy156
 clear hy156
 replace H := Option.bind_eq_some_iff.mp H
 obtain ⟨⟨t159, t160, t161⟩, A20, H⟩ := H
 replace H : (if 0 ≤ t159 then (if t159 < (y156.length : Int) then (some (rd y156 t159, t160, t161)) else (none)) else (none)) = some (r1, r2, r3) := H
 have A2 := Aside0.mk A20
 clear A20
 by_cases c3 : 0 ≤ t159
 ·rw [if_pos c3] at H
  have c3b0 : decide (0 ≤ t159) = true := decide_eq_true c3
  clear c3
  by_cases c4 : t159 < (y156.length : Int)
  ·rw [if_pos c4] at H
   have c4b0 : decide (t159 < (y156.length : Int)) = true := decide_eq_true c4
   clear c4
   simp only [Option.some.injEq, Prod.mk.injEq] at H
   obtain ⟨rfl, rfl, rfl⟩ := H
   go_enter Try.func114, Try.ntmps114
   go_wp2_with (first | ((with_reducible refine gate_dst (N := 3) rfl ?_); refine Kd.R_lit (Kd.int .i64) _ 3 ?hg (N := 3) ?hd (xs := ([(-1), 0, 1, 2, 255, 256, 65535, 9223372036854775807, (-9223372036854775808), 17, 8, 12] : List Int)) (inner := [.int .i64 (-1), .int .i64 0, .int .i64 1, .int .i64 2, .int .i64 255, .int .i64 256, .int .i64 65535, .int .i64 9223372036854775807, .int .i64 (-9223372036854775808), .int .i64 17, .int .i64 8, .int .i64 12]) (ok := fun _ => True) (okp := fun _ => True) ?hr ?hp (fun _ hk => hk) trivial (Below.refl _ _) (Nat.le_refl _) (by simp) ?_; (case hd => rfl); (case hg => rfl); (case hr => first | (go_simp; done) | (go_simp; rfl)); (case hp => exact (Reps.one (show Kd.M (Kd.int .i64) _ _ _ (-1) [.int .i64 (-1)] from rfl) (Reps.one (show Kd.M (Kd.int .i64) _ _ _ 0 [.int .i64 0] from rfl) (Reps.one (show Kd.M (Kd.int .i64) _ _ _ 1 [.int .i64 1] from rfl) (Reps.one (show Kd.M (Kd.int .i64) _ _ _ 2 [.int .i64 2] from rfl) (Reps.one (show Kd.M (Kd.int .i64) _ _ _ 255 [.int .i64 255] from rfl) (Reps.one (show Kd.M (Kd.int .i64) _ _ _ 256 [.int .i64 256] from rfl) (Reps.one (show Kd.M (Kd.int .i64) _ _ _ 65535 [.int .i64 65535] from rfl) (Reps.one (show Kd.M (Kd.int .i64) _ _ _ 9223372036854775807 [.int .i64 9223372036854775807] from rfl) (Reps.one (show Kd.M (Kd.int .i64) _ _ _ (-9223372036854775808) [.int .i64 (-9223372036854775808)] from rfl) (Reps.one (show Kd.M (Kd.int .i64) _ _ _ 17 [.int .i64 17] from rfl) (Reps.one (show Kd.M (Kd.int .i64) _ _ _ 8 [.int .i64 8] from rfl) (Reps.one (show Kd.M (Kd.int .i64) _ _ _ 12 [.int .i64 12] from rfl) (Reps.none _ _)))))))))))))); intro v157 w5 ho6 hb hg_ hnew_; clear hg_ hnew_; (first | rw [← Ny156.out] at ho6 | (simp only [Int.reduceToNat] at ho6; rw [← Ny156.out] at ho6)); have n0_ := Aside0.mk (Kd.R_lower ho6 (keep_size (w := w) (g := g) (row := none) (by repeat (first | (with_reducible first | exact HK.out | apply KeepBut.set_ | apply keep_drewN | apply keep_drew | apply keep_alloc) | exact HK.out)))); have n1_ := Aside0.mk (IsS150.below (by repeat (first | (with_reducible first | exact HI0.out | apply IsS150.alloc | apply IsS150.drewN | apply IsS150.drew | apply IsS150.set_1 | apply IsS150.set_2) | exact HI0.out)) hb); have n2_ := Aside0.mk (KeepBut.trans (by repeat (first | (with_reducible first | exact HK.out | apply KeepBut.set_ | apply keep_drewN | apply keep_drew | apply keep_alloc) | exact HK.out)) (KeepBut.of_below hb g none) (.inl rfl)); have n3_ := Aside0.mk (below_step (by repeat (first | (with_reducible first | exact HB.out | apply below_alloc | apply pw_below_drewN | apply below_drew1 | refine below_set ?_ (IsS150.ge HI0.out)) | exact HB.out)) hb); clear HI0; clear HK; clear HB; have HO158 := n0_; have HI0 := n1_; have HK := n2_; have HB := n3_; clear n0_ n1_ n2_ n3_; clear hb ho6) | ((with_reducible refine gate_callee (f := 85) rfl ?_); refine goesL_ (some 5) rfl rfl Try.func85 (by kernel_rfl) rfl #[.pointer (some ⟨g, 0, none⟩), .int .i64 12] rfl (by (try simp only [List.map_toArray, List.map_cons, List.map_nil]); first | done | rfl | (simp only [List.length_drop, List.length_take]; rfl)) ?_; (with_reducible refine (spec_l01Cur_pick.calls g s0_0 s0_1 s0_2 12 t159 t160 t161 w0 _ ?side1 ?side2 A2.out).mono ?_); (case side1 => repeat (first | (with_reducible first | exact HI0.out | apply IsS150.alloc | apply IsS150.drewN | apply IsS150.drew | apply IsS150.set_1 | apply IsS150.set_2) | exact HI0.out)); (case side2 => repeat (first | (with_reducible first | exact HB.out | apply below_alloc | apply pw_below_drewN | apply below_drew1 | refine below_set ?_ (IsS150.ge HI0.out)) | exact HB.out)); rintro e w7 ⟨rfl, hi, hb, hk⟩; refine ⟨_, rfl, ?_⟩; have n0_ := Aside0.mk (Kd.R_mono (Kd.R_keep (IsS150.apart (show IsS150 w0 _ g s0_0 s0_1 s0_2 from by repeat (first | (with_reducible first | exact HI0.out | apply IsS150.alloc | apply IsS150.drewN | apply IsS150.drew | apply IsS150.set_1 | apply IsS150.set_2) | exact HI0.out)) (by (with_reducible repeat (first | apply Kd.R_alloc | apply Kd.R_drewN | apply Kd.R_drew)); exact HO158.out) (by decide)) hk (fun _ h => h.2)) (fun _ h => h.1)); have n1_ := Aside0.mk (KeepBut.trans (by repeat (first | (with_reducible first | exact HK.out | apply KeepBut.set_ | apply keep_drewN | apply keep_drew | apply keep_alloc) | exact HK.out)) hk (.inl rfl)); have n2_ := Aside0.mk (hb); have n3_ := Aside0.mk (hi); clear HO158; clear HK; clear HB; clear HI0; have HO158 := n0_; have HK := n1_; have HB := n2_; have HI0 := n3_; clear n0_ n1_ n2_ n3_; (try clear hb); (try clear hb2); (try clear hk); (try clear hi); obtain ⟨Ao8, co8, eo8⟩ := Kd.R_slice HO158.out; subst eo8; have p162 : 0 ≤ (t159 : Int) := of_decide_eq_true (by first | (with_reducible assumption) | assumption); have q162 : t159 < (y156.length : Int) := of_decide_eq_true (by first | (with_reducible assumption) | assumption); obtain ⟨ad162, e162, hx162_0⟩ := Kd.at_int (Kd.R_reads' HO158.out).2.2 t159 p162 q162; cases e162; replace p162 := eq_true p162; replace q162 := eq_true q162))
   go_ret
   exact ⟨by first | rfl | (simp [errW_none, errW_some] <;> rfl) | (simp [*, errW_none, errW_some] <;> rfl), by repeat (first | (with_reducible first | exact HI0.out | apply IsS150.alloc | apply IsS150.drewN | apply IsS150.drew | apply IsS150.set_1 | apply IsS150.set_2) | exact HI0.out), by repeat (first | (with_reducible first | exact HB.out | apply below_alloc | apply pw_below_drewN | apply below_drew1 | refine below_set ?_ (IsS150.ge HI0.out)) | exact HB.out), by repeat (first | (with_reducible first | exact HK.out | apply KeepBut.set_ | apply keep_drewN | apply keep_drew | apply keep_alloc) | exact HK.out)⟩
  ·rw [if_neg c4] at H
   exact absurd H (by simp)
 ·rw [if_neg c3] at H
  exact absurd H (by simp)
theorem spec_l01Cur_odd.val (c : List Int) (hc : ∀ x ∈ c, 0 ≤ x ∧ x ≤ 255) (hl : c.length ≤ 1048576) (a s : Int) (ha : 0 ≤ a) (ha2 : a ≤ 1000000000000) (hs0 : 0 ≤ s) (hs1 : s ≤ 65536) :
  ∃ x a' s', spec_l01Cur_odd.f c a s = some (x, a', s') ∧ -9223372036854775808 ≤ x ∧ x ≤ 9223372036854775807 ∧ a ≤ a' ∧ a' ≤ a + 2 ∧ 0 ≤ s' ∧ s' ≤ 65536 := by
 unfold spec_l01Cur_odd.f
 obtain ⟨x, a', s', e, h1, h2, h3, h4, h5, h6⟩ := spec_l01Cur_pick.val c hc hl a s 12 ha ha2 hs0 hs1
 rw [Option.bind_some, e]
 simp only [Option.bind_some]
 rw [if_pos h1, if_pos (by simp; omega)]
 refine ⟨_, a', s', rfl, ?_, ?_, h3, h4, h5, h6⟩ <;>
 ·have : x = 0 ∨ x = 1 ∨ x = 2 ∨ x = 3 ∨ x = 4 ∨ x = 5 ∨ x = 6 ∨ x = 7 ∨ x = 8 ∨ x = 9 ∨ x = 10 ∨ x = 11 := by omega
  rcases this with h | h | h | h | h | h | h | h | h | h | h | h <;> subst h <;> decide
end Go.Proofs.Ytcjjmfpkhhdmlaa.G


namespace Go.Proofs.Ytcjjmfpkhhdmlaa.G
open Go.RowKit Go.Proofs.YtcjjmfpkhhdmlaaW.PrintWords Go.Proofs.YtcjjmfpkhhdmlaaW.PrintLast Go.Proofs.YtcjjmfpkhhdmlaaW.PrintMore
attribute [local go_sem] max2_int min2_int max_two min_two max_three min_three max_four min_four   -- for this text's walks alone
def spec_l01Cur_size.f (s0_0 : List Int) (s0_1 : Int) (s0_2 : Int) (a1 : Int) : Option (Int × Int × Int) := if (wrap64 (1 + (wrap64 ((s0_0.length : Int) / 10)))) > a1 then ((spec_l01Cur_pick.f s0_0 s0_1 s0_2 (wrap64 (a1 + 1))).bind fun bt408 => (some (bt408.1, bt408.2.1, bt408.2.2))) else ((spec_l01Cur_pick.f s0_0 s0_1 s0_2 (wrap64 ((wrap64 (1 + (wrap64 ((s0_0.length : Int) / 10)))) + 1))).bind fun bt411 => (some (bt411.1, bt411.2.1, bt411.2.2)))
set_option maxHeartbeats 8000000 in
set_option maxRecDepth 100000 in
theorem spec_l01Cur_size.calls (g : Nat) (s0_0 : List Int) (s0_1 : Int) (s0_2 : Int) (a1 : Int) (r1 : Int) (r2 : Int) (r3 : Int) (w0 w : World) (hI : IsS150 w0 w g s0_0 s0_1 s0_2) (hB : Below w0.heap.size w0 w) (h : spec_l01Cur_size.f s0_0 s0_1 s0_2 a1 = some (r1, r2, r3)) :
  Calls Try.prog 153 #[.pointer (some ⟨g, 0, none⟩), .int .i64 a1] w fun e w' => e = .returned (.int .i64 r1) ∧ IsS150 w0 w' g s0_0 r2 r3 ∧ Below w0.heap.size w0 w' ∧ KeepBut w w' g none := by
 have HI0 := Aside0.mk hI
 have HK := Aside0.mk (KeepBut.refl w g none)
 have HL := Aside0.mk hB.size
 clear hI
 have HW0 := Aside0.mk hB.size
 have HB := Aside0.mk hB
 clear hB
 have H : (if (wrap64 (1 + (wrap64 ((s0_0.length : Int) / 10)))) > a1 then ((spec_l01Cur_pick.f s0_0 s0_1 s0_2 (wrap64 (a1 + 1))).bind fun bt408 => (some (bt408.1, bt408.2.1, bt408.2.2))) else ((spec_l01Cur_pick.f s0_0 s0_1 s0_2 (wrap64 ((wrap64 (1 + (wrap64 ((s0_0.length : Int) / 10)))) + 1))).bind fun bt411 => (some (bt411.1, bt411.2.1, bt411.2.2)))) = some (r1, r2, r3) := h
 clear h
 by_cases c3 : (wrap64 (1 + (wrap64 ((s0_0.length : Int) / 10)))) > a1
 ·rw [if_pos c3] at H
  have c3b0 : decide (a1 < (wrap64 (1 + (wrap64 ((s0_0.length : Int) / 10))))) = true := decide_eq_true c3
  clear c3
  replace H := Option.bind_eq_some_iff.mp H
  obtain ⟨⟨t408, t409, t410⟩, A40, H⟩ := H
  replace H : (some (t408, t409, t410)) = some (r1, r2, r3) := H
  have A4 := Aside0.mk A40
  clear A40
  simp only [Option.some.injEq, Prod.mk.injEq] at H
  obtain ⟨rfl, rfl, rfl⟩ := H
  obtain ⟨ASz5_0, cSz5_0, HGz5, hgz5, HSz5_0⟩ := HI0.out
  have hcz5_0 := cellS150_0 HGz5
  have hcz5_1 := cellS150_1 HGz5
  have hcz5_2 := cellS150_2 HGz5
  have hfz5_1 := blk_frozen HGz5 1
  have hfz5_2 := blk_frozen HGz5 2
  clear HGz5 hgz5
  go_enter Try.func153, Try.ntmps153
  go_wp2_with (first | ((with_reducible refine gate_callee (f := 85) rfl ?_); refine goesL_ (some 20) rfl rfl Try.func85 (by kernel_rfl) rfl #[.pointer (some ⟨g, 0, none⟩), .int .i64 (wrap64 (a1 + 1))] rfl (by (try simp only [List.map_toArray, List.map_cons, List.map_nil]); first | done | rfl | (simp only [List.length_drop, List.length_take]; rfl)) ?_; (with_reducible refine (spec_l01Cur_pick.calls g s0_0 s0_1 s0_2 (wrap64 (a1 + 1)) t408 t409 t410 w0 _ ?side1 ?side2 A4.out).mono ?_); (case side1 => repeat (first | (with_reducible first | exact HI0.out | apply IsS150.alloc | apply IsS150.drewN | apply IsS150.drew | apply IsS150.set_1 | apply IsS150.set_2) | exact HI0.out)); (case side2 => repeat (first | (with_reducible first | exact HB.out | apply below_alloc | apply pw_below_drewN | apply below_drew1 | refine below_set ?_ (IsS150.ge HI0.out)) | exact HB.out)); rintro e w6 ⟨rfl, hi, hb, hk⟩; refine ⟨_, rfl, ?_⟩; have n0_ := Aside0.mk (KeepBut.trans (by repeat (first | (with_reducible first | exact HK.out | apply KeepBut.set_ | apply keep_drewN | apply keep_drew | apply keep_alloc) | exact HK.out)) hk (.inl rfl)); have n1_ := Aside0.mk (hb); have n2_ := Aside0.mk (hi); clear HK; clear HB; clear HI0; have HK := n0_; have HB := n1_; have HI0 := n2_; clear n0_ n1_ n2_; (try clear hb); (try clear hb2); (try clear hk); (try clear hi)))
  go_ret
  exact ⟨by first | rfl | (simp [errW_none, errW_some] <;> rfl) | (simp [*, errW_none, errW_some] <;> rfl), by repeat (first | (with_reducible first | exact HI0.out | apply IsS150.alloc | apply IsS150.drewN | apply IsS150.drew | apply IsS150.set_1 | apply IsS150.set_2) | exact HI0.out), by repeat (first | (with_reducible first | exact HB.out | apply below_alloc | apply pw_below_drewN | apply below_drew1 | refine below_set ?_ (IsS150.ge HI0.out)) | exact HB.out), by repeat (first | (with_reducible first | exact HK.out | apply KeepBut.set_ | apply keep_drewN | apply keep_drew | apply keep_alloc) | exact HK.out)⟩
 ·rw [if_neg c3] at H
  have c3b0 : decide (a1 < (wrap64 (1 + (wrap64 ((s0_0.length : Int) / 10))))) = false := decide_eq_false c3
  clear c3
  replace H := Option.bind_eq_some_iff.mp H
  obtain ⟨⟨t411, t412, t413⟩, A70, H⟩ := H
  replace H : (some (t411, t412, t413)) = some (r1, r2, r3) := H
  have A7 := Aside0.mk A70
  clear A70
  simp only [Option.some.injEq, Prod.mk.injEq] at H
  obtain ⟨rfl, rfl, rfl⟩ := H
  obtain ⟨ASz8_0, cSz8_0, HGz8, hgz8, HSz8_0⟩ := HI0.out
  have hcz8_0 := cellS150_0 HGz8
  have hcz8_1 := cellS150_1 HGz8
  have hcz8_2 := cellS150_2 HGz8
  have hfz8_1 := blk_frozen HGz8 1
  have hfz8_2 := blk_frozen HGz8 2
  clear HGz8 hgz8
  go_enter Try.func153, Try.ntmps153
  go_wp2_with (first | ((with_reducible refine gate_callee (f := 85) rfl ?_); refine goesL_ (some 20) rfl rfl Try.func85 (by kernel_rfl) rfl #[.pointer (some ⟨g, 0, none⟩), .int .i64 (wrap64 ((wrap64 (1 + (wrap64 ((s0_0.length : Int) / 10)))) + 1))] rfl (by (try simp only [List.map_toArray, List.map_cons, List.map_nil]); first | done | rfl | (simp only [List.length_drop, List.length_take]; rfl)) ?_; (with_reducible refine (spec_l01Cur_pick.calls g s0_0 s0_1 s0_2 (wrap64 ((wrap64 (1 + (wrap64 ((s0_0.length : Int) / 10)))) + 1)) t411 t412 t413 w0 _ ?side1 ?side2 A7.out).mono ?_); (case side1 => repeat (first | (with_reducible first | exact HI0.out | apply IsS150.alloc | apply IsS150.drewN | apply IsS150.drew | apply IsS150.set_1 | apply IsS150.set_2) | exact HI0.out)); (case side2 => repeat (first | (with_reducible first | exact HB.out | apply below_alloc | apply pw_below_drewN | apply below_drew1 | refine below_set ?_ (IsS150.ge HI0.out)) | exact HB.out)); rintro e w9 ⟨rfl, hi, hb, hk⟩; refine ⟨_, rfl, ?_⟩; have n0_ := Aside0.mk (KeepBut.trans (by repeat (first | (with_reducible first | exact HK.out | apply KeepBut.set_ | apply keep_drewN | apply keep_drew | apply keep_alloc) | exact HK.out)) hk (.inl rfl)); have n1_ := Aside0.mk (hb); have n2_ := Aside0.mk (hi); clear HK; clear HB; clear HI0; have HK := n0_; have HB := n1_; have HI0 := n2_; clear n0_ n1_ n2_; (try clear hb); (try clear hb2); (try clear hk); (try clear hi)))
  go_ret
  exact ⟨by first | rfl | (simp [errW_none, errW_some] <;> rfl) | (simp [*, errW_none, errW_some] <;> rfl), by repeat (first | (with_reducible first | exact HI0.out | apply IsS150.alloc | apply IsS150.drewN | apply IsS150.drew | apply IsS150.set_1 | apply IsS150.set_2) | exact HI0.out), by repeat (first | (with_reducible first | exact HB.out | apply below_alloc | apply pw_below_drewN | apply below_drew1 | refine below_set ?_ (IsS150.ge HI0.out)) | exact HB.out), by repeat (first | (with_reducible first | exact HK.out | apply KeepBut.set_ | apply keep_drewN | apply keep_drew | apply keep_alloc) | exact HK.out)⟩
theorem spec_l01Cur_size.val (c : List Int) (hc : ∀ x ∈ c, 0 ≤ x ∧ x ≤ 255) (hl : c.length ≤ 1048576) (a s n : Int) (ha : 0 ≤ a) (ha2 : a ≤ 1000000000000) (hs0 : 0 ≤ s) (hs1 : s ≤ 65536) (hn : 0 ≤ n) (hn2 : n ≤ 1000000000) :
  ∃ x a' s', spec_l01Cur_size.f c a s n = some (x, a', s') ∧ 0 ≤ x ∧ x ≤ n ∧ a ≤ a' ∧ a' ≤ a + 2 ∧ 0 ≤ s' ∧ s' ≤ 65536 := by
 unfold spec_l01Cur_size.f
 rw [wrap_in ((c.length : Int) / 10) (by omega) (by omega), wrap_in (1 + (c.length : Int) / 10) (by omega) (by omega), wrap_in (n + 1) (by omega) (by omega), wrap_in (1 + (c.length : Int) / 10 + 1) (by omega) (by omega)]
 by_cases h : 1 + (c.length : Int) / 10 > n
 ·obtain ⟨x, a', s', e, h1, h2, h3, h4, h5, h6⟩ := spec_l01Cur_pick.val c hc hl a s (n + 1) ha ha2 hs0 hs1
  rw [if_pos h, e]
  exact ⟨x, a', s', rfl, h1, by omega, h3, h4, h5, h6⟩
 ·obtain ⟨x, a', s', e, h1, h2, h3, h4, h5, h6⟩ := spec_l01Cur_pick.val c hc hl a s (1 + (c.length : Int) / 10 + 1) ha ha2 hs0 hs1
  rw [if_neg h, e]
  exact ⟨x, a', s', rfl, h1, by omega, h3, h4, h5, h6⟩
end Go.Proofs.Ytcjjmfpkhhdmlaa.G


namespace Go.Proofs.Ytcjjmfpkhhdmlaa.G
open Go.RowKit Go.Proofs.YtcjjmfpkhhdmlaaW.PrintWords Go.Proofs.YtcjjmfpkhhdmlaaW.PrintLast Go.Proofs.YtcjjmfpkhhdmlaaW.PrintMore
attribute [local go_sem] max2_int min2_int max_two min_two max_three min_three max_four min_four   -- for this text's walks alone
def spec_l01Between.f (a0 : Int) (a1 : Int) (a2 : Int) : Option (Bool) := if a0 ≥ a1 then (some (decide (a0 ≤ a2))) else (some false)
set_option maxHeartbeats 8000000 in
set_option maxRecDepth 100000 in
theorem spec_l01Between.calls (a0 : Int) (a1 : Int) (a2 : Int) (r : Bool) (w : World) (h : spec_l01Between.f a0 a1 a2 = some r) :
  Calls Try.prog 78 #[.int .i64 a0, .int .i64 a1, .int .i64 a2] w fun e w' => e = .returned (.bool r) ∧ Drawn0 w w' := by
 have H : (if a0 ≥ a1 then (some (decide (a0 ≤ a2))) else (some false)) = some r := h
 clear h
 by_cases c4 : a0 ≥ a1
 ·rw [if_pos c4] at H
  have c4b0 : decide (a1 ≤ a0) = true := decide_eq_true c4
  clear c4
  obtain rfl := Option.some.inj H
  go_enter Try.func78, Try.ntmps78
  go_wp2
  go_ret
  exact ⟨by first | rfl | (simp; done) | (simp [*]; done), by repeat (first | exact Drawn0.refl _ | apply Drawn0.step)⟩
 ·rw [if_neg c4] at H
  have c4b0 : decide (a1 ≤ a0) = false := decide_eq_false c4
  clear c4
  obtain rfl := Option.some.inj H
  go_enter Try.func78, Try.ntmps78
  go_wp2
  go_ret
  exact ⟨by first | rfl | (simp; done) | (simp [*]; done), by repeat (first | exact Drawn0.refl _ | apply Drawn0.step)⟩
theorem spec_l01Between.val (x lo hi : Int) : spec_l01Between.f x lo hi = some (decide (lo ≤ x) && decide (x ≤ hi)) := by
 unfold spec_l01Between.f
 by_cases h1 : x ≥ lo
 ·rw [if_pos h1]; simp [ge_iff_le.mp h1]
 ·rw [if_neg h1]; have : ¬ lo ≤ x := h1; simp [this]
end Go.Proofs.Ytcjjmfpkhhdmlaa.G


namespace Go.Proofs.Ytcjjmfpkhhdmlaa.G
open Go.RowKit Go.Proofs.YtcjjmfpkhhdmlaaW.PrintWords Go.Proofs.YtcjjmfpkhhdmlaaW.PrintLast Go.Proofs.YtcjjmfpkhhdmlaaW.PrintMore
attribute [local go_sem] max2_int min2_int max_two min_two max_three min_three max_four min_four   -- for this text's walks alone
def spec_l01Cur_once.f (s0_0 : List Int) (s0_1 : Int) (s0_2 : Int) (a1 : Int) : Option (Bool × Int × Int) := (spec_l01Cur_pick.f s0_0 s0_1 s0_2 a1).bind fun bt153 => (some ((bt153.1 == (wrap64 (a1 - 1))), bt153.2.1, bt153.2.2))
set_option maxHeartbeats 8000000 in
set_option maxRecDepth 100000 in
theorem spec_l01Cur_once.calls (g : Nat) (s0_0 : List Int) (s0_1 : Int) (s0_2 : Int) (a1 : Int) (r1 : Bool) (r2 : Int) (r3 : Int) (w0 w : World) (hI : IsS150 w0 w g s0_0 s0_1 s0_2) (hB : Below w0.heap.size w0 w) (h : spec_l01Cur_once.f s0_0 s0_1 s0_2 a1 = some (r1, r2, r3)) :
  Calls Try.prog 87 #[.pointer (some ⟨g, 0, none⟩), .int .i64 a1] w fun e w' => e = .returned (.bool r1) ∧ IsS150 w0 w' g s0_0 r2 r3 ∧ Below w0.heap.size w0 w' ∧ KeepBut w w' g none := by
 have HI0 := Aside0.mk hI
 have HK := Aside0.mk (KeepBut.refl w g none)
 have HL := Aside0.mk hB.size
 clear hI
 have HW0 := Aside0.mk hB.size
 have HB := Aside0.mk hB
 clear hB
 have H : ((spec_l01Cur_pick.f s0_0 s0_1 s0_2 a1).bind fun bt153 => (some ((bt153.1 == (wrap64 (a1 - 1))), bt153.2.1, bt153.2.2))) = some (r1, r2, r3) := h
 clear h
 replace H := Option.bind_eq_some_iff.mp H
 obtain ⟨⟨t153, t154, t155⟩, A30, H⟩ := H
 replace H : (some ((t153 == (wrap64 (a1 - 1))), t154, t155)) = some (r1, r2, r3) := H
 have A3 := Aside0.mk A30
 clear A30
 simp only [Option.some.injEq, Prod.mk.injEq] at H
 obtain ⟨rfl, rfl, rfl⟩ := H
 go_enter Try.func87, Try.ntmps87
 go_wp2_with (first | ((with_reducible refine gate_callee (f := 85) rfl ?_); refine goesL_ (some 7) rfl rfl Try.func85 (by kernel_rfl) rfl #[.pointer (some ⟨g, 0, none⟩), .int .i64 a1] rfl (by (try simp only [List.map_toArray, List.map_cons, List.map_nil]); first | done | rfl | (simp only [List.length_drop, List.length_take]; rfl)) ?_; (with_reducible refine (spec_l01Cur_pick.calls g s0_0 s0_1 s0_2 a1 t153 t154 t155 w0 _ ?side1 ?side2 A3.out).mono ?_); (case side1 => repeat (first | (with_reducible first | exact HI0.out | apply IsS150.alloc | apply IsS150.drewN | apply IsS150.drew | apply IsS150.set_1 | apply IsS150.set_2) | exact HI0.out)); (case side2 => repeat (first | (with_reducible first | exact HB.out | apply below_alloc | apply pw_below_drewN | apply below_drew1 | refine below_set ?_ (IsS150.ge HI0.out)) | exact HB.out)); rintro e w4 ⟨rfl, hi, hb, hk⟩; refine ⟨_, rfl, ?_⟩; have n0_ := Aside0.mk (KeepBut.trans (by repeat (first | (with_reducible first | exact HK.out | apply KeepBut.set_ | apply keep_drewN | apply keep_drew | apply keep_alloc) | exact HK.out)) hk (.inl rfl)); have n1_ := Aside0.mk (hb); have n2_ := Aside0.mk (hi); clear HK; clear HB; clear HI0; have HK := n0_; have HB := n1_; have HI0 := n2_; clear n0_ n1_ n2_; (try clear hb); (try clear hb2); (try clear hk); (try clear hi)))
 go_ret
 exact ⟨by first | rfl | (simp [errW_none, errW_some] <;> rfl) | (simp [*, errW_none, errW_some] <;> rfl), by repeat (first | (with_reducible first | exact HI0.out | apply IsS150.alloc | apply IsS150.drewN | apply IsS150.drew | apply IsS150.set_1 | apply IsS150.set_2) | exact HI0.out), by repeat (first | (with_reducible first | exact HB.out | apply below_alloc | apply pw_below_drewN | apply below_drew1 | refine below_set ?_ (IsS150.ge HI0.out)) | exact HB.out), by repeat (first | (with_reducible first | exact HK.out | apply KeepBut.set_ | apply keep_drewN | apply keep_drew | apply keep_alloc) | exact HK.out)⟩
theorem spec_l01Cur_once.val (c : List Int) (hc : ∀ x ∈ c, 0 ≤ x ∧ x ≤ 255) (hl : c.length ≤ 1048576) (a s n : Int) (ha : 0 ≤ a) (ha2 : a ≤ 1000000000000) (hs0 : 0 ≤ s) (hs1 : s ≤ 65536) :
  ∃ b a' s', spec_l01Cur_once.f c a s n = some (b, a', s') ∧ a ≤ a' ∧ a' ≤ a + 2 ∧ 0 ≤ s' ∧ s' ≤ 65536 := by
 unfold spec_l01Cur_once.f
 obtain ⟨x, a', s', e, h1, h2, h3, h4, h5, h6⟩ := spec_l01Cur_pick.val c hc hl a s n ha ha2 hs0 hs1
 rw [e]
 exact ⟨_, a', s', rfl, h3, h4, h5, h6⟩
end Go.Proofs.Ytcjjmfpkhhdmlaa.G


namespace Go.Proofs.Ytcjjmfpkhhdmlaa.G
open Go.RowKit Go.Proofs.YtcjjmfpkhhdmlaaW.PrintWords Go.Proofs.YtcjjmfpkhhdmlaaW.PrintLast Go.Proofs.YtcjjmfpkhhdmlaaW.PrintMore
attribute [local go_sem] max2_int min2_int max_two min_two max_three min_three max_four min_four   -- for this text's walks alone
def EvP {α : Type} (g : Nat → Option α) (P : α → Prop) : Prop := ∃ r, Ev g r ∧ P r
theorem EvP.now {α : Type} {P : α → Prop} {r : α} (h : P r) : EvP (fun _ => some r) P := ⟨r, Ev.now r, h⟩
theorem EvP.ip {α : Type} {P : α → Prop} {c : Prop} [Decidable c] {g f : Nat → Option α} (hc : c) (h : EvP g P) : EvP (fun n => if c then g n else f n) P := by
 obtain ⟨r, h1, h2⟩ := h
 exact ⟨r, Ev.ip hc h1, h2⟩
theorem EvP.ng {α : Type} {P : α → Prop} {c : Prop} [Decidable c] {g f : Nat → Option α} (hc : ¬ c) (h : EvP f P) : EvP (fun n => if c then g n else f n) P := by
 obtain ⟨r, h1, h2⟩ := h
 exact ⟨r, Ev.ng hc h1, h2⟩
theorem EvP.either {α : Type} {P : α → Prop} {c : Prop} [Decidable c] {g f : Nat → Option α} (h1 : c → EvP g P) (h2 : ¬ c → EvP f P) : EvP (fun n => if c then g n else f n) P := by
 by_cases hc : c
 ·exact EvP.ip hc (h1 hc)
 ·exact EvP.ng hc (h2 hc)
theorem EvP.step {α : Type} {P : α → Prop} {g f : Nat → Option α} (h : ∀ k, g (k + 1) = f k) (hf : EvP f P) : EvP g P := by
 obtain ⟨r, h1, h2⟩ := hf
 exact ⟨r, Ev.step h h1, h2⟩
theorem EvP.bind {α β : Type} {Q : α → Prop} {P : β → Prop} {g : Nat → Option α} {f : Nat → α → Option β} (h : EvP g Q) (k : ∀ a, Q a → EvP (fun n => f n a) P) : EvP (fun n => (g n).bind (f n)) P := by
 obtain ⟨a, h1, h2⟩ := h
 obtain ⟨r, h3, h4⟩ := k a h2
 exact ⟨r, Ev.bind h1 h3, h4⟩
theorem EvP.some {α β : Type} {P : β → Prop} {a : α} {f : Nat → α → Option β} (k : EvP (fun n => f n a) P) : EvP (fun n => (Option.some a).bind (f n)) P := by
 obtain ⟨r, h3, h4⟩ := k
 exact ⟨r, Ev.bind (Ev.c rfl) h3, h4⟩
theorem EvP.val {α β : Type} {P : β → Prop} {x : Option α} {a : α} {f : Nat → α → Option β} (h : x = Option.some a) (k : EvP (fun n => f n a) P) : EvP (fun n => x.bind (f n)) P := by
 obtain ⟨r, h3, h4⟩ := k
 exact ⟨r, Ev.bind (Ev.c h) h3, h4⟩
theorem EvP.mono {α : Type} {P Q : α → Prop} {g : Nat → Option α} (h : EvP g P) (hq : ∀ a, P a → Q a) : EvP g Q := by
 obtain ⟨r, h1, h2⟩ := h
 exact ⟨r, h1, hq r h2⟩
theorem EvP.of {α : Type} {P : α → Prop} {g : Nat → Option α} {r : α} (h : Ev g r) (hp : P r) : EvP g P := ⟨r, h, hp⟩
/-- the cursor, at place a of m at most -/
structure CurAt (c : List Int) (m : Nat) (a s : Int) : Prop where
 b : ∀ x ∈ c, 0 ≤ x ∧ x ≤ 255
 l : c.length ≤ 1048576
 a0 : 0 ≤ a
 a1 : a ≤ m
 s0 : 0 ≤ s
 s1 : s ≤ 65536
theorem CurAt.up {c : List Int} {m m' : Nat} {a s : Int} (h : CurAt c m a s) (hm : m ≤ m') : CurAt c m' a s := ⟨h.b, h.l, h.a0, by have := h.a1; omega, h.s0, h.s1⟩
theorem CurAt.pick {c : List Int} {m : Nat} {a s : Int} (h : CurAt c m a s) (hm : m ≤ 1000000000000) (n : Int) {β : Type} {P : β → Prop} {f : Nat → Int × Int × Int → Option β}
  (k : ∀ x a' s' : Int, 0 ≤ x → (x < n ∨ (n < 2 ∧ x = 0)) → CurAt c (m + 2) a' s' → EvP (fun q => f q (x, a', s')) P) : EvP (fun q => (spec_l01Cur_pick.f c a s n).bind (f q)) P := by
 have ha := h.a1
 obtain ⟨x, a', s', e, h1, h2, h3, h4, h5, h6⟩ := spec_l01Cur_pick.val c h.b h.l a s n h.a0 (by omega) h.s0 h.s1
 exact EvP.val e (k x a' s' h1 h2 ⟨h.b, h.l, by have := h.a0; omega, by omega, h5, h6⟩)
theorem CurAt.once {c : List Int} {m : Nat} {a s : Int} (h : CurAt c m a s) (hm : m ≤ 1000000000000) (n : Int) {β : Type} {P : β → Prop} {f : Nat → Bool × Int × Int → Option β}
  (k : ∀ (x : Bool) (a' s' : Int), CurAt c (m + 2) a' s' → EvP (fun q => f q (x, a', s')) P) : EvP (fun q => (spec_l01Cur_once.f c a s n).bind (f q)) P := by
 have ha := h.a1
 obtain ⟨x, a', s', e, h3, h4, h5, h6⟩ := spec_l01Cur_once.val c h.b h.l a s n h.a0 (by omega) h.s0 h.s1
 exact EvP.val e (k x a' s' ⟨h.b, h.l, by have := h.a0; omega, by omega, h5, h6⟩)
theorem CurAt.size {c : List Int} {m : Nat} {a s : Int} (h : CurAt c m a s) (hm : m ≤ 1000000000000) (n : Int) (hn : 0 ≤ n) (hn2 : n ≤ 1000000000) {β : Type} {P : β → Prop} {f : Nat → Int × Int × Int → Option β}
  (k : ∀ x a' s' : Int, 0 ≤ x → x ≤ n → CurAt c (m + 2) a' s' → EvP (fun q => f q (x, a', s')) P) : EvP (fun q => (spec_l01Cur_size.f c a s n).bind (f q)) P := by
 have ha := h.a1
 obtain ⟨x, a', s', e, h1, h2, h3, h4, h5, h6⟩ := spec_l01Cur_size.val c h.b h.l a s n h.a0 (by omega) h.s0 h.s1 hn hn2
 exact EvP.val e (k x a' s' h1 h2 ⟨h.b, h.l, by have := h.a0; omega, by omega, h5, h6⟩)
theorem CurAt.odd {c : List Int} {m : Nat} {a s : Int} (h : CurAt c m a s) (hm : m ≤ 1000000000000) {β : Type} {P : β → Prop} {f : Nat → Int × Int × Int → Option β}
  (k : ∀ x a' s' : Int, -9223372036854775808 ≤ x → x ≤ 9223372036854775807 → CurAt c (m + 2) a' s' → EvP (fun q => f q (x, a', s')) P) : EvP (fun q => (spec_l01Cur_odd.f c a s).bind (f q)) P := by
 have ha := h.a1
 obtain ⟨x, a', s', e, h1, h2, h3, h4, h5, h6⟩ := spec_l01Cur_odd.val c h.b h.l a s h.a0 (by omega) h.s0 h.s1
 exact EvP.val e (k x a' s' h1 h2 ⟨h.b, h.l, by have := h.a0; omega, by omega, h5, h6⟩)
theorem CurAt.open_ {l : List Int} (hb : ∀ x ∈ l, 0 ≤ x ∧ x ≤ 255) (hl : l.length ≤ 1048576) {β : Type} {P : β → Prop} {f : Nat → List Int × Int × Int → Option β}
  (k : ∀ s : Int, CurAt l 0 0 s → EvP (fun q => f q (l, 0, s)) P) : EvP (fun q => (spec_l01Open.f l).bind (f q)) P :=
 EvP.val (by unfold spec_l01Open.f; rfl) (k (13 + ((l.length : Int) % 1000)) ⟨hb, hl, Int.le_refl _, Int.le_refl _, by omega, by omega⟩)
end Go.Proofs.Ytcjjmfpkhhdmlaa.G


namespace Go.Proofs.Ytcjjmfpkhhdmlaa.G
open Go.RowKit Go.Proofs.YtcjjmfpkhhdmlaaW.PrintWords Go.Proofs.YtcjjmfpkhhdmlaaW.PrintLast Go.Proofs.YtcjjmfpkhhdmlaaW.PrintMore
attribute [local go_sem] max2_int min2_int max_two min_two max_three min_three max_four min_four   -- for this text's walks alone
def spec_l08Freqs.l0 : Nat → List Int → Bool → Int → Option (Bool)
 | 0, _, _, _ => none
 | k + 1, x0, x3, x4 => if x4 < (x0.length : Int) then (if 0 ≤ x4 then ((spec_l01Between.f (rd x0 x4) 0 1000000).bind fun t597 => (if t597 = true then (if x3 = true then (spec_l08Freqs.l0 k x0 true (wrap64 (x4 + 1))) else (spec_l08Freqs.l0 k x0 (decide ((rd x0 x4) > 0)) (wrap64 (x4 + 1)))) else (some false))) else (none)) else (some x3)
def spec_l08Freqs.f (k : Nat) (l0 : List Int) : Option (Bool) := if (l0.length : Int) > 256 then (some false) else (spec_l08Freqs.l0 k l0 false 0)
set_option maxHeartbeats 8000000 in
set_option maxRecDepth 100000 in
theorem spec_l08Freqs.calls (k : Nat) (A0 : Option Addr) (c0 : Nat) (l0 : List Int) (r : Bool) (w : World) (hr0 : Kd.C (Kd.int .i64) w A0 l0.length l0) (hc0 : l0.length ≤ c0) (h : spec_l08Freqs.f k l0 = some r) :
  Calls Try.prog 173 #[.slice A0 l0.length c0] w fun e w' => e = .returned (.bool r) ∧ Drawn0 w w' := by
 have HR0 := Aside0.mk hr0
 have HC0 := Aside0.mk hc0
 clear hr0 hc0
 have H : (if (l0.length : Int) > 256 then (some false) else (spec_l08Freqs.l0 k l0 false 0)) = some r := h
 clear h
 by_cases c2 : (l0.length : Int) > 256
 ·rw [if_pos c2] at H
  have c2b0 : decide (256 < (l0.length : Int)) = true := decide_eq_true c2
  have c2b1 : decide (256 < l0.length) = true := decide_eq_true (by omega)
  clear c2
  obtain rfl := Option.some.inj H
  go_enter Try.func173, Try.ntmps173
  go_wp2
  go_ret
  exact ⟨by first | rfl | (simp; done) | (simp [*]; done), by repeat (first | exact Drawn0.refl _ | apply Drawn0.step)⟩
 ·rw [if_neg c2] at H
  have c2b0 : decide (256 < (l0.length : Int)) = false := decide_eq_false c2
  have c2b1 : decide (256 < l0.length) = false := decide_eq_false (by omega)
  clear c2
  have H' := Aside0.mk H
  clear H
  go_enter Try.func173, Try.ntmps173
  go_wp2
  go_loopg [3, 4] k (fun kq v3 v4 w' => ∃ (x3_1 : Bool) (x4_1 : Int), v3 = .bool x3_1 ∧ v4 = .int .i64 x4_1 ∧ Aside0 (spec_l08Freqs.l0 kq l0 x3_1 x4_1 = some r) ∧ Aside0 (kq ≤ k) ∧ Drawn0 w w')
  case atStart => exact ⟨(false), (0), (by first | rfl | (simp; done) | (simp [*]; done)), (by first | rfl | (simp; done) | (simp [*]; done)), H', ⟨Nat.le_refl _⟩, by repeat (first | exact Drawn0.refl _ | apply Drawn0.step)⟩
  case round =>
   clear H'
   try clear c1
   try clear c2
   try clear c2b0
   try clear c2b1
   try clear p2
   obtain ⟨x3_1, x4_1, rfl, rfl, HA, HK1, ⟨m1, rfl⟩⟩ := hrel
   cases gk with
   | zero => exact absurd HA.out (by simp [spec_l08Freqs.l0])
   | succ k1 =>
    have H := HA.out
    clear HA
    simp only [spec_l08Freqs.l0] at H
    by_cases c3 : x4_1 < (l0.length : Int)
    ·rw [if_pos c3] at H
     have c3b0 : decide (x4_1 < (l0.length : Int)) = true := decide_eq_true c3
     clear c3
     by_cases c4 : 0 ≤ x4_1
     ·rw [if_pos c4] at H
      have c4b0 : decide (0 ≤ x4_1) = true := decide_eq_true c4
      clear c4
      replace H := Option.bind_eq_some_iff.mp H
      obtain ⟨t597, A50, H⟩ := H
      replace H : (if t597 = true then (if x3_1 = true then (spec_l08Freqs.l0 k1 l0 true (wrap64 (x4_1 + 1))) else (spec_l08Freqs.l0 k1 l0 (decide ((rd l0 x4_1) > 0)) (wrap64 (x4_1 + 1)))) else (some false)) = some r := H
      have A5 := Aside0.mk A50
      clear A50
      by_cases c6 : t597 = true
      ·subst c6
       have H1 : (if x3_1 = true then (spec_l08Freqs.l0 k1 l0 true (wrap64 (x4_1 + 1))) else (spec_l08Freqs.l0 k1 l0 (decide ((rd l0 x4_1) > 0)) (wrap64 (x4_1 + 1)))) = some r := by rw [if_pos rfl] at H; exact H
       clear H
       have H := H1
       clear H1
       by_cases c7 : x3_1 = true
       ·subst c7
        have H1 : (spec_l08Freqs.l0 k1 l0 true (wrap64 (x4_1 + 1))) = some r := by rw [if_pos rfl] at H; exact H
        clear H
        have H := H1
        clear H1
        have H' := Aside0.mk H
        clear H
        have p596 : 0 ≤ (x4_1 : Int) := of_decide_eq_true (by first | (with_reducible assumption) | assumption)
        have q596 : x4_1 < (l0.length : Int) := of_decide_eq_true (by first | (with_reducible assumption) | assumption)
        obtain ⟨ad596, e596, hx596_0⟩ := Kd.at_int HR0.out x4_1 p596 q596
        cases e596
        replace p596 := eq_true p596
        replace q596 := eq_true q596
        go_wp2_with (first | ((with_reducible refine gate_callee (f := 78) rfl ?_); refine goesL_ (some 18) rfl rfl Try.func78 (by kernel_rfl) rfl #[.int .i64 (rd l0 x4_1), .int .i64 0, .int .i64 1000000] rfl (by (try simp only [List.map_toArray, List.map_cons, List.map_nil]); first | done | rfl | (simp only [List.length_drop, List.length_take]; rfl)) ?_; (with_reducible refine (spec_l01Between.calls (rd l0 x4_1) 0 1000000 true _ A5.out).mono ?_); rintro e w' ⟨rfl, ⟨nd, rfl⟩⟩; refine ⟨_, rfl, ?_⟩))
        go_roundg k1
        case measure => have := HK1.out; omega
        case rel => exact ⟨(true), (wrap64 (x4_1 + 1)), (by first | rfl | (simp; done) | (simp [*]; done)), (by first | rfl | (simp; done) | (simp [*]; done)), H', ⟨by have := HK1.out; omega⟩, by repeat (first | exact Drawn0.refl _ | apply Drawn0.step)⟩
       ·replace c7 := Bool.eq_false_iff.mpr c7
        subst c7
        have H1 : (spec_l08Freqs.l0 k1 l0 (decide ((rd l0 x4_1) > 0)) (wrap64 (x4_1 + 1))) = some r := by rw [if_neg (show ¬ (false = true) by decide)] at H; exact H
        clear H
        have H := H1
        clear H1
        have H' := Aside0.mk H
        clear H
        have p596 : 0 ≤ (x4_1 : Int) := of_decide_eq_true (by first | (with_reducible assumption) | assumption)
        have q596 : x4_1 < (l0.length : Int) := of_decide_eq_true (by first | (with_reducible assumption) | assumption)
        obtain ⟨ad596, e596, hx596_0⟩ := Kd.at_int HR0.out x4_1 p596 q596
        cases e596
        replace p596 := eq_true p596
        replace q596 := eq_true q596
        go_wp2_with (first | ((with_reducible refine gate_callee (f := 78) rfl ?_); refine goesL_ (some 18) rfl rfl Try.func78 (by kernel_rfl) rfl #[.int .i64 (rd l0 x4_1), .int .i64 0, .int .i64 1000000] rfl (by (try simp only [List.map_toArray, List.map_cons, List.map_nil]); first | done | rfl | (simp only [List.length_drop, List.length_take]; rfl)) ?_; (with_reducible refine (spec_l01Between.calls (rd l0 x4_1) 0 1000000 true _ A5.out).mono ?_); rintro e w' ⟨rfl, ⟨nd, rfl⟩⟩; refine ⟨_, rfl, ?_⟩; have p598 : 0 ≤ (x4_1 : Int) := of_decide_eq_true (by first | (with_reducible assumption) | assumption); have q598 : x4_1 < (l0.length : Int) := of_decide_eq_true (by first | (with_reducible assumption) | assumption); obtain ⟨ad598, e598, hx598_0⟩ := Kd.at_int HR0.out x4_1 p598 q598; obtain rfl : ad596 = ad598 := (by injection e598); replace p598 := eq_true p598; replace q598 := eq_true q598))
        go_roundg k1
        case measure => have := HK1.out; omega
        case rel => exact ⟨(decide ((rd l0 x4_1) > 0)), (wrap64 (x4_1 + 1)), (by first | rfl | (simp; done) | (simp [*]; done)), (by first | rfl | (simp; done) | (simp [*]; done)), H', ⟨by have := HK1.out; omega⟩, by repeat (first | exact Drawn0.refl _ | apply Drawn0.step)⟩
      ·replace c6 := Bool.eq_false_iff.mpr c6
       subst c6
       have H1 : (some false) = some r := by rw [if_neg (show ¬ (false = true) by decide)] at H; exact H
       clear H
       have H := H1
       clear H1
       obtain rfl := Option.some.inj H
       have p596 : 0 ≤ (x4_1 : Int) := of_decide_eq_true (by first | (with_reducible assumption) | assumption)
       have q596 : x4_1 < (l0.length : Int) := of_decide_eq_true (by first | (with_reducible assumption) | assumption)
       obtain ⟨ad596, e596, hx596_0⟩ := Kd.at_int HR0.out x4_1 p596 q596
       cases e596
       replace p596 := eq_true p596
       replace q596 := eq_true q596
       go_wp2_with (first | ((with_reducible refine gate_callee (f := 78) rfl ?_); refine goesL_ (some 18) rfl rfl Try.func78 (by kernel_rfl) rfl #[.int .i64 (rd l0 x4_1), .int .i64 0, .int .i64 1000000] rfl (by (try simp only [List.map_toArray, List.map_cons, List.map_nil]); first | done | rfl | (simp only [List.length_drop, List.length_take]; rfl)) ?_; (with_reducible refine (spec_l01Between.calls (rd l0 x4_1) 0 1000000 false _ A5.out).mono ?_); rintro e w' ⟨rfl, ⟨nd, rfl⟩⟩; refine ⟨_, rfl, ?_⟩))
       go_ret
       exact ⟨by first | rfl | (simp; done) | (simp [*]; done), by repeat (first | exact Drawn0.refl _ | apply Drawn0.step)⟩
     ·rw [if_neg c4] at H
      exact absurd H (by simp)
    ·rw [if_neg c3] at H
     have c3b0 : decide (x4_1 < (l0.length : Int)) = false := decide_eq_false c3
     clear c3
     obtain rfl := Option.some.inj H
     go_wp2
     go_ret
     exact ⟨by first | rfl | (simp; done) | (simp [*]; done), by repeat (first | exact Drawn0.refl _ | apply Drawn0.step)⟩
theorem spec_l08Freqs.ev (l : List Int) : EvP (fun k => spec_l08Freqs.f k l) (fun b => b = true → l.length ≤ 256) := by
 unfold spec_l08Freqs.f
 refine EvP.either (fun h => EvP.now (fun h' => by simp at h')) (fun h => ?_)
 have key : ∀ (d i : Nat) (b : Bool), l.length - i = d → i ≤ l.length → EvP (fun k => spec_l08Freqs.l0 k l b (i : Int)) (fun b => b = true → l.length ≤ 256) := by
  intro d
  induction d with
  | zero =>
   intro i b hd hi
   exact EvP.step (fun _ => by rw [spec_l08Freqs.l0]) (EvP.ng (by omega) (EvP.now (fun _ => by omega)))
  | succ d ih =>
   intro i b hd hi
   refine EvP.step (fun _ => by rw [spec_l08Freqs.l0]) (EvP.ip (by omega) (EvP.ip (by omega) (EvP.val (spec_l01Between.val _ _ _) ?_)))
   rw [wrap_succ i (by omega)]
   refine EvP.either (fun _ => ?_) (fun _ => EvP.now (fun h' => by simp at h'))
   exact EvP.either (fun _ => ih (i + 1) _ (by omega) (by omega)) (fun _ => ih (i + 1) _ (by omega) (by omega))
 exact key l.length 0 false rfl (by omega)
end Go.Proofs.Ytcjjmfpkhhdmlaa.G


namespace Go.Proofs.Ytcjjmfpkhhdmlaa.G
open Go.RowKit Go.Proofs.YtcjjmfpkhhdmlaaW.PrintWords Go.Proofs.YtcjjmfpkhhdmlaaW.PrintLast Go.Proofs.YtcjjmfpkhhdmlaaW.PrintMore
attribute [local go_sem] max2_int min2_int max_two min_two max_three min_three max_four min_four   -- for this text's walks alone
theorem getD_mem {α : Type} (l : List α) (j : Nat) (z : α) (h : j < l.length) : l.getD j z ∈ l := by
 rw [List.getD_eq_getElem?_getD, List.getElem?_eq_getElem h]; exact List.getElem_mem h
end Go.Proofs.Ytcjjmfpkhhdmlaa.G

