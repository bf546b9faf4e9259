import Derived.Test.YtcjjmfpkhhdmlaaProg
import Derived.Below
import Derived.Deep.Draws
import Derived.Deep.AppendLies
import Derived.Maps.AppendAt
import Derived.OwnWalk
import Derived.Laws.BytesArg
import Derived.Laws.MakeOwn
import Derived.Laws.OwnMore
import Derived.Deep.OwnRows
import Derived.Tactics
import Derived.Lib.ConvBytes
import Derived.Laws.Slices
import Derived.WalkKit
import Derived.KernelRfl
import Derived.RowKit3
import Derived.Deep.LoopGhost
import Derived.Deep.QuietTactic
import Derived.BigQuiet
import Derived.WideLaws
import Derived.Deep.DeepCutAuto
import Derived.Deep.CutBlock
import Derived.Deep.RegionHeld3
import Derived.Laws.Rows
import Derived.Lib.AppendStr
import Derived.ArgAppend
import Derived.Laws.IdiomCopy
import Derived.OrdersHeld
import Derived.Laws.BitsLemmas
import Derived.RowKit
import Derived.Test.YtcjjmfpkhhdmlaaWWords
import Derived.Test.YtcjjmfpkhhdmlaaWLast
import Derived.Test.YtcjjmfpkhhdmlaaWTab
import Derived.Test.YtcjjmfpkhhdmlaaWFour
import Derived.Test.YtcjjmfpkhhdmlaaWQPut
import Derived.Test.YtcjjmfpkhhdmlaaWApart
import Derived.Test.YtcjjmfpkhhdmlaaWArr
import Derived.Test.YtcjjmfpkhhdmlaaWZeros
import Derived.Test.YtcjjmfpkhhdmlaaWFoot
import Derived.Test.YtcjjmfpkhhdmlaaWKept
import Derived.Test.YtcjjmfpkhhdmlaaWShare
import Derived.Test.YtcjjmfpkhhdmlaaWN
import Derived.Test.YtcjjmfpkhhdmlaaWFootNe
import Derived.Test.YtcjjmfpkhhdmlaaWAt
import Derived.Test.YtcjjmfpkhhdmlaaWEqStruct
import Derived.Test.YtcjjmfpkhhdmlaaWRepsOne
import Derived.Test.YtcjjmfpkhhdmlaaWInv
import Derived.Test.YtcjjmfpkhhdmlaaWInvWords
import Derived.Test.YtcjjmfpkhhdmlaaWGuard
import Derived.Test.YtcjjmfpkhhdmlaaWNEv
import Derived.Test.YtcjjmfpkhhdmlaaWMore
import Derived.BigRegion
import Derived.Deep.CutRange
namespace Go.Proofs.Ytcjjmfpkhhdmlaa.G
open Go.RowKit Go.Proofs.YtcjjmfpkhhdmlaaW.PrintWords Go.Proofs.YtcjjmfpkhhdmlaaW.PrintLast Go.Proofs.YtcjjmfpkhhdmlaaW.PrintMore
attribute [local go_sem] max2_int min2_int max_two min_two max_three min_three max_four min_four   -- for this text's walks alone
set_option linter.unusedVariables false
set_option linter.unusedSimpArgs false



def errW : Option Int → Value
  | none => .nilIface
  | some c => .iface 0 (.int .i64 c)
theorem errW_none : errW none = .nilIface := rfl
theorem errW_some (c : Int) : errW (some c) = .iface 0 (.int .i64 c) := rfl

theorem info3 : (Try.prog.info? 3).map (fun i => (i.zero, i.size, i.bytes)) = some (some (.int .i64 0), 1, 8) := by kernel_rfl
theorem info4 : (Try.prog.info? 4).map (fun i => (i.zero, i.size, i.bytes)) = some (some (.bool false), 1, 1) := by kernel_rfl
theorem info5 : (Try.prog.info? 5).map (fun i => (i.zero, i.size, i.bytes)) = some (some (.int .u8 0), 1, 1) := by kernel_rfl
theorem info22 : (Try.prog.info? 22).map (fun i => (i.zero, i.size, i.bytes)) = some (some (.slice none 0 0), 1, 24) := by kernel_rfl
theorem info36 : (Try.prog.info? 36).map (fun i => (i.zero, i.size, i.bytes)) = some (some (.slice none 0 0), 1, 24) := by kernel_rfl
theorem info116 : (Try.prog.info? 116).map (fun i => (i.zero, i.size, i.bytes)) = some (some (.agg #[(.int .i64 0), (.int .i64 0), (.int .i64 0)]), 3, 24) := by kernel_rfl
theorem info124 : (Try.prog.info? 124).map (fun i => (i.zero, i.size, i.bytes)) = some (some (.agg #[(.int .i64 0), (.int .i64 0)]), 2, 16) := by kernel_rfl
theorem info131 : (Try.prog.info? 131).map (fun i => (i.zero, i.size, i.bytes)) = some (some (.agg #[(.int .i64 0), (.slice none 0 0)]), 2, 32) := by kernel_rfl
theorem info167 : (Try.prog.info? 167).map (fun i => (i.zero, i.size, i.bytes)) = some (some (.agg #[(.int .i64 0), (.slice none 0 0)]), 2, 32) := by kernel_rfl
-- the values' own types
/-! #### struct type 124 -/
structure S124 where
  f0 : Int
  f1 : Int
def z124 : S124 := ⟨(0 : Int), (0 : Int)⟩
def k124 : Kd S124 := Kd.iso (Kd.pair (Kd.int .i64) (Kd.int .i64)) (fun x : S124 => (x.f0, x.f1))
theorem k124_open {w : World} {x : S124} {cs : List Value} (h : k124.K w x cs) : cs = [.int .i64 x.f0, .int .i64 x.f1] := by
  obtain ⟨_, _, rfl, rfl, rfl⟩ := h
  exact rfl
theorem k124_openM {w : World} {base : Nat} {ok : Nat → Prop} {x : S124} {cs : List Value} (h : k124.M w base ok x cs) : cs = [.int .i64 x.f0, .int .i64 x.f1] := by
  obtain ⟨_, _, rfl, rfl, rfl⟩ := h
  exact rfl
theorem k124_mk (w : World) (x : S124)  : k124.K w x [.int .i64 x.f0, .int .i64 x.f1] := ⟨[.int .i64 x.f0], [.int .i64 x.f1], rfl, rfl, rfl⟩
theorem k124_mkM (w : World) (base : Nat) (ok : Nat → Prop) (x : S124)  : k124.M w base ok x [.int .i64 x.f0, .int .i64 x.f1] := ⟨[.int .i64 x.f0], [.int .i64 x.f1], rfl, rfl, rfl⟩
theorem k124_mkF (W : World) (ok : Nat → Prop) (x : S124) : Kd.FK k124 W ok x [.int .i64 x.f0, .int .i64 x.f1] := fun W2 _ => k124_mk W2 x
def rd_T124 (xs : List S124) (i : Int) : S124 := xs.getD i.toNat z124
theorem at_T124 {w : World} {A : Option Addr} {n : Nat} {xs : List S124} (h : Kd.C k124 w A n xs) (i : Int) (h0 : 0 ≤ i) (h1 : i < n) : ∃ ad , A = some ad ∧ w.cell? (ad.add (i.toNat * 2)) = some (.int .i64 (rd_T124 xs i).f0) ∧ w.cell? ⟨(ad.add (i.toNat * 2)).block, (ad.add (i.toNat * 2)).off + 1, none⟩ = some (.int .i64 (rd_T124 xs i).f1) := by
  obtain ⟨ad, c, e, _, hK, hc0⟩ := Kd.C_get h z124 i h0 h1
  have hc : ∀ j u, c[j]? = some u → w.cell? (ad.add (i.toNat * 2 + j)) = some u := hc0
  obtain rfl := k124_open hK
  exact ⟨ad, e, hc 0 _ rfl, by rw [← add_field _ _ 1 (by omega)]; exact hc 1 _ rfl⟩

def rd_L3 (xs : List (List Int)) (i : Int) : (List Int) := xs.getD i.toNat ([] : List Int)
theorem at_L3 {w : World} {A : Option Addr} {n : Nat} {xs : List (List Int)} (h : Kd.C (Kd.slice 3 (Kd.int .i64)) w A n xs) (i : Int) (h0 : 0 ≤ i) (h1 : i < n) : ∃ ad A0 c0, A = some ad ∧ w.cell? (ad.add i.toNat) = some (.slice A0 (rd_L3 xs i).length c0) ∧ (rd_L3 xs i).length ≤ c0 ∧ (Kd.int .i64).C w A0 (rd_L3 xs i).length (rd_L3 xs i) := by
  obtain ⟨ad, c, e, _, hK, hc0⟩ := Kd.C_get h ([] : List Int) i h0 h1
  have hc : ∀ j u, c[j]? = some u → w.cell? (ad.add (i.toNat * 1 + j)) = some u := hc0
  obtain ⟨A0, c0, rfl, l0, g0⟩ := hK
  exact ⟨ad, A0, c0, e, by have hq := hc 0 _ rfl; rwa [Nat.mul_one, Nat.add_zero] at hq, l0, g0⟩

def rd_L4 (xs : List (List (List Int))) (i : Int) : (List (List Int)) := xs.getD i.toNat ([] : List (List Int))
theorem at_L4 {w : World} {A : Option Addr} {n : Nat} {xs : List (List (List Int))} (h : Kd.C (Kd.slice 22 (Kd.slice 3 (Kd.int .i64))) w A n xs) (i : Int) (h0 : 0 ≤ i) (h1 : i < n) : ∃ ad A0 c0, A = some ad ∧ w.cell? (ad.add i.toNat) = some (.slice A0 (rd_L4 xs i).length c0) ∧ (rd_L4 xs i).length ≤ c0 ∧ (Kd.slice 3 (Kd.int .i64)).C w A0 (rd_L4 xs i).length (rd_L4 xs i) := by
  obtain ⟨ad, c, e, _, hK, hc0⟩ := Kd.C_get h ([] : List (List Int)) i h0 h1
  have hc : ∀ j u, c[j]? = some u → w.cell? (ad.add (i.toNat * 1 + j)) = some u := hc0
  obtain ⟨A0, c0, rfl, l0, g0⟩ := hK
  exact ⟨ad, A0, c0, e, by have hq := hc 0 _ rfl; rwa [Nat.mul_one, Nat.add_zero] at hq, l0, g0⟩

/-! #### struct type 167 -/
structure S167 where
  f0 : Int
  f1 : (List Int)
def z167 : S167 := ⟨(0 : Int), ([] : List Int)⟩
def k167 : Kd S167 := Kd.iso (Kd.pair (Kd.int .i64) (Kd.slice 3 (Kd.int .i64))) (fun x : S167 => (x.f0, x.f1))
theorem k167_open {w : World} {x : S167} {cs : List Value} (h : k167.K w x cs) : ∃ A1 c1, cs = [.int .i64 x.f0, .slice A1 x.f1.length c1] ∧ x.f1.length ≤ c1 ∧ (Kd.int .i64).C w A1 x.f1.length x.f1 := by
  obtain ⟨_, _, rfl, rfl, ⟨A1, c1, rfl, l1, g1⟩⟩ := h
  exact ⟨A1, c1, rfl, l1, g1⟩
theorem k167_openM {w : World} {base : Nat} {ok : Nat → Prop} {x : S167} {cs : List Value} (h : k167.M w base ok x cs) : ∃ v1, cs = [.int .i64 x.f0, v1] ∧ (Kd.int .i64).R 3 w base ok v1 x.f1 := by
  obtain ⟨_, _, rfl, rfl, ⟨v1, rfl, g1⟩⟩ := h
  exact ⟨v1, rfl, g1⟩
theorem k167_mk (w : World) (x : S167) {A1 : Option Addr} {c1 : Nat} (l1 : x.f1.length ≤ c1) (g1 : (Kd.int .i64).C w A1 x.f1.length x.f1) : k167.K w x [.int .i64 x.f0, .slice A1 x.f1.length c1] := ⟨[.int .i64 x.f0], [.slice A1 x.f1.length c1], rfl, rfl, ⟨A1, c1, rfl, l1, g1⟩⟩
theorem k167_mkM (w : World) (base : Nat) (ok : Nat → Prop) (x : S167) {v1 : Value} (g1 : (Kd.int .i64).R 3 w base ok v1 x.f1) : k167.M w base ok x [.int .i64 x.f0, v1] := ⟨[.int .i64 x.f0], [v1], rfl, rfl, ⟨v1, rfl, g1⟩⟩
theorem k167_openF {W : World} {ok : Nat → Prop} {x : S167} {cs : List Value} (h : Kd.FK k167 W ok x cs) : ∃ A1 c1, cs = [.int .i64 x.f0, .slice A1 x.f1.length c1] ∧ x.f1.length ≤ c1 ∧ Kd.F (Kd.int .i64) W ok A1 x.f1.length x.f1 := by
  obtain ⟨A1, c1, rfl, l1, _⟩ := k167_open (Kd.FK_now h)
  exact ⟨A1, c1, rfl, l1, (fun W' hW => by obtain ⟨A1_, c1_, he, l1_, g1_⟩ := k167_open (h W' hW); injection (Option.some.inj (show some (Value.slice A1 x.f1.length c1) = some (Value.slice A1_ x.f1.length c1_) from congrArg (fun l => l[1]?) he)) with ha_ _ _; rw [ha_]; exact g1_)⟩
theorem k167_mkF (W : World) (ok : Nat → Prop) (x : S167) {A1 : Option Addr} {c1 : Nat} (l1 : x.f1.length ≤ c1) (g1 : Kd.F (Kd.int .i64) W ok A1 x.f1.length x.f1) : Kd.FK k167 W ok x [.int .i64 x.f0, .slice A1 x.f1.length c1] := fun W2 hW => k167_mk W2 x l1 (g1 W2 hW)
def rd_T167 (xs : List S167) (i : Int) : S167 := xs.getD i.toNat z167
theorem at_T167 {w : World} {A : Option Addr} {n : Nat} {xs : List S167} (h : Kd.C k167 w A n xs) (i : Int) (h0 : 0 ≤ i) (h1 : i < n) : ∃ ad A1 c1, A = some ad ∧ w.cell? (ad.add (i.toNat * 2)) = some (.int .i64 (rd_T167 xs i).f0) ∧ w.cell? ⟨(ad.add (i.toNat * 2)).block, (ad.add (i.toNat * 2)).off + 1, none⟩ = some (.slice A1 (rd_T167 xs i).f1.length c1) ∧ (rd_T167 xs i).f1.length ≤ c1 ∧ (Kd.int .i64).C w A1 (rd_T167 xs i).f1.length (rd_T167 xs i).f1 := by
  obtain ⟨ad, c, e, _, hK, hc0⟩ := Kd.C_get h z167 i h0 h1
  have hc : ∀ j u, c[j]? = some u → w.cell? (ad.add (i.toNat * 2 + j)) = some u := hc0
  obtain ⟨A1, c1, rfl, l1, g1⟩ := k167_open hK
  exact ⟨ad, A1, c1, e, hc 0 _ rfl, by rw [← add_field _ _ 1 (by omega)]; exact hc 1 _ rfl, l1, g1⟩

def rd_L7 (xs : List (List S124)) (i : Int) : (List S124) := xs.getD i.toNat ([] : List S124)
theorem at_L7 {w : World} {A : Option Addr} {n : Nat} {xs : List (List S124)} (h : Kd.C (Kd.slice 124 k124) w A n xs) (i : Int) (h0 : 0 ≤ i) (h1 : i < n) : ∃ ad A0 c0, A = some ad ∧ w.cell? (ad.add i.toNat) = some (.slice A0 (rd_L7 xs i).length c0) ∧ (rd_L7 xs i).length ≤ c0 ∧ k124.C w A0 (rd_L7 xs i).length (rd_L7 xs i) := by
  obtain ⟨ad, c, e, _, hK, hc0⟩ := Kd.C_get h ([] : List S124) i h0 h1
  have hc : ∀ j u, c[j]? = some u → w.cell? (ad.add (i.toNat * 1 + j)) = some u := hc0
  obtain ⟨A0, c0, rfl, l0, g0⟩ := hK
  exact ⟨ad, A0, c0, e, by have hq := hc 0 _ rfl; rwa [Nat.mul_one, Nat.add_zero] at hq, l0, g0⟩

def rd_L8 (xs : List (List Int)) (i : Int) : (List Int) := xs.getD i.toNat ([] : List Int)
theorem at_L8 {w : World} {A : Option Addr} {n : Nat} {xs : List (List Int)} (h : Kd.C (Kd.slice 5 (Kd.int .u8)) w A n xs) (i : Int) (h0 : 0 ≤ i) (h1 : i < n) : ∃ ad A0 c0, A = some ad ∧ w.cell? (ad.add i.toNat) = some (.slice A0 (rd_L8 xs i).length c0) ∧ (rd_L8 xs i).length ≤ c0 ∧ (Kd.int .u8).C w A0 (rd_L8 xs i).length (rd_L8 xs i) := by
  obtain ⟨ad, c, e, _, hK, hc0⟩ := Kd.C_get h ([] : List Int) i h0 h1
  have hc : ∀ j u, c[j]? = some u → w.cell? (ad.add (i.toNat * 1 + j)) = some u := hc0
  obtain ⟨A0, c0, rfl, l0, g0⟩ := hK
  exact ⟨ad, A0, c0, e, by have hq := hc 0 _ rfl; rwa [Nat.mul_one, Nat.add_zero] at hq, l0, g0⟩

/-! #### struct type 131 -/
structure S131 where
  f0 : Int
  f1 : (List Int)
def z131 : S131 := ⟨(0 : Int), ([] : List Int)⟩
def k131 : Kd S131 := Kd.iso (Kd.pair (Kd.int .i64) (Kd.slice 5 (Kd.int .u8))) (fun x : S131 => (x.f0, x.f1))
theorem k131_open {w : World} {x : S131} {cs : List Value} (h : k131.K w x cs) : ∃ A1 c1, cs = [.int .i64 x.f0, .slice A1 x.f1.length c1] ∧ x.f1.length ≤ c1 ∧ (Kd.int .u8).C w A1 x.f1.length x.f1 := by
  obtain ⟨_, _, rfl, rfl, ⟨A1, c1, rfl, l1, g1⟩⟩ := h
  exact ⟨A1, c1, rfl, l1, g1⟩
theorem k131_openM {w : World} {base : Nat} {ok : Nat → Prop} {x : S131} {cs : List Value} (h : k131.M w base ok x cs) : ∃ v1, cs = [.int .i64 x.f0, v1] ∧ (Kd.int .u8).R 5 w base ok v1 x.f1 := by
  obtain ⟨_, _, rfl, rfl, ⟨v1, rfl, g1⟩⟩ := h
  exact ⟨v1, rfl, g1⟩
theorem k131_mk (w : World) (x : S131) {A1 : Option Addr} {c1 : Nat} (l1 : x.f1.length ≤ c1) (g1 : (Kd.int .u8).C w A1 x.f1.length x.f1) : k131.K w x [.int .i64 x.f0, .slice A1 x.f1.length c1] := ⟨[.int .i64 x.f0], [.slice A1 x.f1.length c1], rfl, rfl, ⟨A1, c1, rfl, l1, g1⟩⟩
theorem k131_mkM (w : World) (base : Nat) (ok : Nat → Prop) (x : S131) {v1 : Value} (g1 : (Kd.int .u8).R 5 w base ok v1 x.f1) : k131.M w base ok x [.int .i64 x.f0, v1] := ⟨[.int .i64 x.f0], [v1], rfl, rfl, ⟨v1, rfl, g1⟩⟩
theorem k131_openF {W : World} {ok : Nat → Prop} {x : S131} {cs : List Value} (h : Kd.FK k131 W ok x cs) : ∃ A1 c1, cs = [.int .i64 x.f0, .slice A1 x.f1.length c1] ∧ x.f1.length ≤ c1 ∧ Kd.F (Kd.int .u8) W ok A1 x.f1.length x.f1 := by
  obtain ⟨A1, c1, rfl, l1, _⟩ := k131_open (Kd.FK_now h)
  exact ⟨A1, c1, rfl, l1, (fun W' hW => by obtain ⟨A1_, c1_, he, l1_, g1_⟩ := k131_open (h W' hW); injection (Option.some.inj (show some (Value.slice A1 x.f1.length c1) = some (Value.slice A1_ x.f1.length c1_) from congrArg (fun l => l[1]?) he)) with ha_ _ _; rw [ha_]; exact g1_)⟩
theorem k131_mkF (W : World) (ok : Nat → Prop) (x : S131) {A1 : Option Addr} {c1 : Nat} (l1 : x.f1.length ≤ c1) (g1 : Kd.F (Kd.int .u8) W ok A1 x.f1.length x.f1) : Kd.FK k131 W ok x [.int .i64 x.f0, .slice A1 x.f1.length c1] := fun W2 hW => k131_mk W2 x l1 (g1 W2 hW)
def rd_T131 (xs : List S131) (i : Int) : S131 := xs.getD i.toNat z131
theorem at_T131 {w : World} {A : Option Addr} {n : Nat} {xs : List S131} (h : Kd.C k131 w A n xs) (i : Int) (h0 : 0 ≤ i) (h1 : i < n) : ∃ ad A1 c1, A = some ad ∧ w.cell? (ad.add (i.toNat * 2)) = some (.int .i64 (rd_T131 xs i).f0) ∧ w.cell? ⟨(ad.add (i.toNat * 2)).block, (ad.add (i.toNat * 2)).off + 1, none⟩ = some (.slice A1 (rd_T131 xs i).f1.length c1) ∧ (rd_T131 xs i).f1.length ≤ c1 ∧ (Kd.int .u8).C w A1 (rd_T131 xs i).f1.length (rd_T131 xs i).f1 := by
  obtain ⟨ad, c, e, _, hK, hc0⟩ := Kd.C_get h z131 i h0 h1
  have hc : ∀ j u, c[j]? = some u → w.cell? (ad.add (i.toNat * 2 + j)) = some u := hc0
  obtain ⟨A1, c1, rfl, l1, g1⟩ := k131_open hK
  exact ⟨ad, A1, c1, e, hc 0 _ rfl, by rw [← add_field _ _ 1 (by omega)]; exact hc 1 _ rfl, l1, g1⟩

end Go.Proofs.Ytcjjmfpkhhdmlaa.G

namespace Go.Proofs.Ytcjjmfpkhhdmlaa.G
open Go.RowKit Go.Proofs.YtcjjmfpkhhdmlaaW.PrintWords Go.Proofs.YtcjjmfpkhhdmlaaW.PrintLast Go.Proofs.YtcjjmfpkhhdmlaaW.PrintMore
attribute [local go_sem] max2_int min2_int max_two min_two max_three min_three max_four min_four   -- for this text's walks alone
set_option linter.unusedVariables false
set_option linter.unusedSimpArgs false

/-! what several texts use -/
theorem S_put1 {α : Type} {d : Kd α} {e g n cap base : Nat} {W w1 : World} {xs : List α} {u : Value} {x' : α} (hd : d.sz = 1) (h : Kd.S d e W base (fun _ => True) (.slice (some ⟨g, 0, none⟩) n cap) xs) (hb : Below W.heap.size W w1) (z : α) (i : Int) (h0 : 0 ≤ i) (h1 : i < n)
    (hM : d.M w1 base (fun k => W.heap.size ≤ k) x' [u]) : Kd.S d e (w1.setCell ⟨g, i.toNat, none⟩ u) base (fun _ => True) (.slice (some ⟨g, 0, none⟩) n cap) (xs.set i.toNat x') := by
  have hg : g < W.heap.size := Kd.S_lt h g rfl
  have h2 : Kd.S d e w1 base (fun k => True ∧ ¬ W.heap.size ≤ k) (.slice (some ⟨g, 0, none⟩) n cap) xs := Kd.S_mono (Kd.S_old h hb) (fun k hk => ⟨trivial, Nat.not_le.2 hk.2⟩)
  obtain ⟨oki, c, hcl, hM0, hcc, hfr, hoki, hH⟩ := Kd.S_elem h2 z i h0 h1
  obtain ⟨q, rfl⟩ := List.length_eq_one_iff.1 (hcl.trans hd)
  have := Kd.S_seg (okg := fun k => W.heap.size ≤ k) (okp := fun k => W.heap.size ≤ k) hH h0 h1 (seg := [u]) (j := 0) (by simp [hd]) (x' := x') (by
    simpa using hM) (fun k hk => .inr hk) (fun k hk => ⟨trivial, by intro he; subst he; omega⟩)
  have h3 := this.1
  rw [hd, Nat.mul_one, Nat.add_zero] at h3
  exact h3
theorem S_cell {α : Type} {d : Kd α} {e g n cap base : Nat} {W : World} {ok : Nat → Prop} {xs : List α} (hd : d.sz = 1) (h : Kd.S d e W base ok (.slice (some ⟨g, 0, none⟩) n cap) xs) (z : α) (i : Int) (h0 : 0 ≤ i) (h1 : i < n) :
    (∃ u, W.cell? ⟨g, i.toNat, none⟩ = some u) ∧ W.frozen? ⟨g, i.toNat, none⟩ = false := by
  obtain ⟨oki, c, hcl, hM0, hcc, hfr, hoki, hH⟩ := Kd.S_elem h z i h0 h1
  rw [hd] at hcc hfr hcl
  obtain ⟨u, rfl⟩ := List.length_eq_one_iff.1 hcl
  exact ⟨⟨u, by have := hcc 0 u rfl; rwa [Nat.mul_one, Nat.add_zero] at this⟩, by have := hfr 0; rwa [Nat.mul_one, Nat.add_zero] at this⟩
theorem fill_set {α : Type} (l : List α) (z : α) (i : Nat) (hi : i < l.length) : (l.take i ++ List.replicate (l.length - i) z).set i l[i] = l.take (i + 1) ++ List.replicate (l.length - (i + 1)) z := by
  rw [show l.length - i = (l.length - (i + 1)) + 1 by omega, List.replicate_succ, List.take_succ_eq_append_getElem hi, List.append_assoc]
  rw [List.set_append_right _ _ (by simp; omega)]
  simp [Nat.min_eq_left (Nat.le_of_lt hi)]
/-! rounds -/
theorem Ev.ip {α : Type} {c : Prop} [Decidable c] {g f : Nat → Option α} {r : α} (hc : c) (h : Ev g r) : Ev (fun n => if c then g n else f n) r := by
  obtain ⟨K, h⟩ := h
  exact ⟨K, fun n hn => by show (if c then g n else f n) = some r; rw [if_pos hc]; exact h n hn⟩
theorem Ev.ng {α : Type} {c : Prop} [Decidable c] {g f : Nat → Option α} {r : α} (hc : ¬ c) (h : Ev f r) : Ev (fun n => if c then g n else f n) r := by
  obtain ⟨K, h⟩ := h
  exact ⟨K, fun n hn => by show (if c then g n else f n) = some r; rw [if_neg hc]; exact h n hn⟩
theorem Ev.c {α : Type} {x : Option α} {r : α} (h : x = some r) : Ev (fun _ => x) r := ⟨0, fun _ _ => h⟩
theorem Ev.eq {α : Type} {g : Nat → Option α} {r r' : α} (h : Ev g r) (e : r = r') : Ev g r' := e ▸ h
theorem rd_nat (l : List Int) (i : Nat) (h : i < l.length) : rd l (i : Int) = l[i] := by simp [rd, h]
theorem wrap_succ (i : Nat) (h : i < 9223372036854775807) : wrap64 ((i : Int) + 1) = ((i + 1 : Nat) : Int) := by unfold wrap64; omega
theorem wrap_in (x : Int) (h1 : -9223372036854775808 ≤ x) (h2 : x ≤ 9223372036854775807) : wrap64 x = x := by unfold wrap64; omega
/-- all numbers lie between two others -/
def allW (lo hi : Int) (l : List Int) : Bool := l.all fun x => decide (lo ≤ x) && decide (x ≤ hi)
/-- a pixel -/
def isPx (px : List Int) : Bool := decide (px.length = 3) && allW 0 255 px
/-- the sum of the squares of the three differences -/
def dist (c px : List Int) : Int := (rd c 0 - rd px 0) * (rd c 0 - rd px 0) + (rd c 1 - rd px 1) * (rd c 1 - rd px 1) + (rd c 2 - rd px 2) * (rd c 2 - rd px 2)
/-- the first of the nearest colours, from one on -/
def nearGo (px : List Int) : List (List Int) → Int → Int → Int → Int
  | [], _, best, _ => best
  | c :: cs, i, best, least => if least < 0 ∨ dist c px < least then nearGo px cs (i + 1) i (dist c px) else nearGo px cs (i + 1) best least
theorem sq_bound (d : Int) (h1 : -255 ≤ d) (h2 : d ≤ 255) : 0 ≤ d * d ∧ d * d ≤ 65025 := by
  have e : d * d = ((d.natAbs * d.natAbs : Nat) : Int) := by rw [Int.natCast_mul, Int.natAbs_mul_self']
  have h3 : d.natAbs ≤ 255 := by omega
  have h4 : d.natAbs * d.natAbs ≤ 255 * 255 := Nat.mul_le_mul h3 h3
  omega
theorem isPx_three {px : List Int} (h : isPx px = true) : ∃ a b c, px = [a, b, c] ∧ 0 ≤ a ∧ a ≤ 255 ∧ 0 ≤ b ∧ b ≤ 255 ∧ 0 ≤ c ∧ c ≤ 255 := by
  unfold isPx allW at h
  rw [Bool.and_eq_true, decide_eq_true_eq, List.all_eq_true] at h
  obtain ⟨hl, ha⟩ := h
  match px, hl with
  | [a, b, c], _ =>
    have h1 := ha a (by simp)
    have h2 := ha b (by simp)
    have h3 := ha c (by simp)
    simp only [Bool.and_eq_true, decide_eq_true_eq] at h1 h2 h3
    exact ⟨a, b, c, rfl, h1.1, h1.2, h2.1, h2.2, h3.1, h3.2⟩
theorem sq_step (s a p : Int) (h0 : 0 ≤ s) (h1 : s ≤ 130050) (ha : 0 ≤ a) (ha' : a ≤ 255) (hp : 0 ≤ p) (hp' : p ≤ 255) : wrap64 (s + wrap64 (wrap64 (a - p) * wrap64 (a - p))) = s + (a - p) * (a - p) := by
  have h := sq_bound (a - p) (by omega) (by omega)
  rw [wrap_in (a - p) (by omega) (by omega), wrap_in ((a - p) * (a - p)) (by omega) (by omega), wrap_in _ (by omega) (by omega)]
theorem w64_1 : wrap64 (0 + 1) = 1 := by unfold wrap64; omega
theorem w64_2 : wrap64 (1 + 1) = 2 := by unfold wrap64; omega
theorem w64_3 : wrap64 (2 + 1) = 3 := by unfold wrap64; omega
/-- colours -/
def isCols (l : List (List Int)) : Bool := decide (1 ≤ l.length) && decide (l.length ≤ 256) && l.all isPx
theorem isCols_all {l : List (List Int)} (h : isCols l = true) : ∀ c ∈ l, isPx c = true := by
  unfold isCols at h; simp only [Bool.and_eq_true, List.all_eq_true] at h; exact h.2
theorem isCols_len {l : List (List Int)} (h : isCols l = true) : 1 ≤ l.length ∧ l.length ≤ 256 := by
  unfold isCols at h; simp only [Bool.and_eq_true, decide_eq_true_eq] at h; exact h.1
/-- numbers that rise by one -/
def rising (a : Int) : Nat → List Int
  | 0 => []
  | n + 1 => a :: rising (a + 1) n
theorem rising_length (a : Int) (n : Nat) : (rising a n).length = n := by
  induction n generalizing a with
  | zero => rfl
  | succ n ih => simp [rising, ih]
theorem rising_snoc (a : Int) (n : Nat) : rising a (n + 1) = rising a n ++ [a + n] := by
  induction n generalizing a with
  | zero => simp [rising]
  | succ n ih => rw [rising, ih]; simp [rising, Int.add_assoc, Int.add_comm 1]
theorem rising_get (a : Int) (n i : Nat) (h : i < (rising a n).length) : (rising a n)[i] = a + i := by
  induction n generalizing a i with
  | zero => simp [rising] at h
  | succ n ih =>
    cases i with
    | zero => simp [rising]
    | succ i => simp only [rising, List.getElem_cons_succ]; rw [ih]; omega
def risingB (a : Int) (n : Nat) : List Int := (rising a n).map (· % 256)
theorem risingB_length (a : Int) (n : Nat) : (risingB a n).length = n := by simp [risingB, rising_length]
theorem risingB_snoc (a : Int) (n : Nat) : risingB a (n + 1) = risingB a n ++ [(a + n) % 256] := by simp [risingB, rising_snoc]
theorem wf_u8 {x : Int} (h : (Lit.int .u8 x).wf = true) : 0 ≤ x ∧ x ≤ 255 := by
  simp only [Lit.wf, Bool.and_eq_true, decide_eq_true_eq] at h
  have h1 : IntKind.u8.min = 0 := rfl
  have h2 : IntKind.u8.max = 255 := rfl
  omega
theorem wf_i64 {x : Int} (h : (Lit.int .i64 x).wf = true) : -9223372036854775808 ≤ x ∧ x ≤ 9223372036854775807 := by
  simp only [Lit.wf, Bool.and_eq_true, decide_eq_true_eq] at h
  have h1 : IntKind.i64.min = -9223372036854775808 := rfl
  have h2 : IntKind.i64.max = 9223372036854775807 := rfl
  omega

end Go.Proofs.Ytcjjmfpkhhdmlaa.G

namespace Go.Proofs.Ytcjjmfpkhhdmlaa.G
open Go.RowKit Go.Proofs.YtcjjmfpkhhdmlaaW.PrintWords Go.Proofs.YtcjjmfpkhhdmlaaW.PrintLast Go.Proofs.YtcjjmfpkhhdmlaaW.PrintMore
attribute [local go_sem] max2_int min2_int max_two min_two max_three min_three max_four min_four   -- for this text's walks alone
set_option linter.unusedVariables false
set_option linter.unusedSimpArgs false

/-! ### laws_eqIntS: function 19 -/
def laws_eqIntS.l0 : Nat → List Int → List Int → Int → Option (Bool)
  | 0, _, _, _ => none
  | k + 1, x0, x1, x5 => if x5 < (x0.length : Int) then (if 0 ≤ x5 then (if x5 < (x1.length : Int) then (if (rd x0 x5) = (rd x1 x5) then (laws_eqIntS.l0 k x0 x1 (wrap64 (x5 + 1))) else (some false)) else (none)) else (none)) else (some true)
def laws_eqIntS.f (k : Nat) (l0 : List Int) (l1 : List Int) : Option (Bool) := if (l0.length : Int) = (l1.length : Int) then (laws_eqIntS.l0 k l0 l1 0) else (some false)
theorem laws_eqIntS.mono_l : ∀ k, (∀ y0 y1 y2, LeO (laws_eqIntS.l0 k y0 y1 y2) (laws_eqIntS.l0 (k + 1) y0 y1 y2))
  | 0 => fun _ _ _ r h => by simp [laws_eqIntS.l0] at h
  | k + 1 => by
    have ih0 := laws_eqIntS.mono_l k
    · intro y0 y1 y2
      unfold laws_eqIntS.l0
      repeat' first
      | (with_reducible exact ih0 _ _ _)
      | (with_reducible exact LeO.refl _)
      | (with_reducible exact LeO.none _)
      | (with_reducible refine LeO.ite ?_ ?_)
      | (with_reducible refine LeO.bind ?_ (fun _ => ?_))
      | exact ih0 _ _ _
      | exact LeO.none _
      | refine LeO.ite ?_ ?_
      | refine LeO.bind ?_ (fun _ => ?_)
theorem laws_eqIntS.mono : ∀ a0 a1 k, LeO (laws_eqIntS.f k a0 a1) (laws_eqIntS.f (k + 1) a0 a1) := by
  intro a0 a1 k
  have ih0 := laws_eqIntS.mono_l k
  unfold laws_eqIntS.f
  repeat' first
      | (with_reducible exact ih0 _ _ _)
      | (with_reducible exact LeO.refl _)
      | (with_reducible exact LeO.none _)
      | (with_reducible refine LeO.ite ?_ ?_)
      | (with_reducible refine LeO.bind ?_ (fun _ => ?_))
      | exact ih0 _ _ _
      | exact LeO.none _
      | refine LeO.ite ?_ ?_
      | refine LeO.bind ?_ (fun _ => ?_)
set_option maxHeartbeats 8000000 in
set_option maxRecDepth 100000 in
theorem laws_eqIntS.calls (k : Nat) (A0 : Option Addr) (c0 : Nat) (l0 : List Int) (A1 : Option Addr) (c1 : Nat) (l1 : List Int) (r : Bool) (w : World) (hr0 : Kd.C (Kd.int .i64) w A0 l0.length l0) (hc0 : l0.length ≤ c0) (hr1 : Kd.C (Kd.int .i64) w A1 l1.length l1) (hc1 : l1.length ≤ c1) (h : laws_eqIntS.f k l0 l1 = some r) :
    Calls Try.prog 19 #[.slice A0 l0.length c0, .slice A1 l1.length c1] w fun e w' => e = .returned (.bool r) ∧ Drawn0 w w' := by
  have HR0 := Aside0.mk hr0
  have HC0 := Aside0.mk hc0
  clear hr0 hc0
  have HR1 := Aside0.mk hr1
  have HC1 := Aside0.mk hc1
  clear hr1 hc1
  have H : (if (l0.length : Int) = (l1.length : Int) then (laws_eqIntS.l0 k l0 l1 0) else (some false)) = some r := h
  clear h
  by_cases c3 : (l0.length : Int) = (l1.length : Int)
  · rw [if_pos c3] at H
    have c3b0 : ((l0.length : Int) == (l1.length : Int)) = true := beq_iff_eq.mpr c3
    have c3b1 : ((l0.length : Int) != (l1.length : Int)) = false := bne_eq_false_iff_eq.mpr c3
    have c3b2 : (l0.length == l1.length) = true := by first | simpa using c3 | (simp at c3 ⊢; omega)
    clear c3
    have H' := Aside0.mk H
    clear H
    go_enter Try.func19, Try.ntmps19
    go_wp2
    repeat (go_quiet (fail); try go_wp2)
    go_loopg [5] k (fun kq v5 w' => ∃ (x5_1 : Int), v5 = .int .i64 x5_1 ∧ Aside0 (laws_eqIntS.l0 kq l0 l1 x5_1 = some r) ∧ Aside0 (kq ≤ k) ∧ Drawn0 w w')
    case atStart => exact ⟨(0), (by first | rfl | (simp; done) | (simp [*]; done)), H', ⟨Nat.le_refl _⟩, by repeat (first | exact Drawn0.refl _ | apply Drawn0.step)⟩
    case round =>
      clear H'
      try clear c1
      try clear p2
      try clear c3
      try clear c3b0
      try clear c3b1
      try clear c3b2
      obtain ⟨x5_1, rfl, HA, HK1, ⟨m1, rfl⟩⟩ := hrel
      cases gk with
      | zero => exact absurd HA.out (by simp [laws_eqIntS.l0])
      | succ k1 =>
        have H := HA.out
        clear HA
        simp only [laws_eqIntS.l0] at H
        by_cases c4 : x5_1 < (l0.length : Int)
        · rw [if_pos c4] at H
          have c4b0 : decide (x5_1 < (l0.length : Int)) = true := decide_eq_true c4
          clear c4
          by_cases c5 : 0 ≤ x5_1
          · rw [if_pos c5] at H
            have c5b0 : decide (0 ≤ x5_1) = true := decide_eq_true c5
            clear c5
            by_cases c6 : x5_1 < (l1.length : Int)
            · rw [if_pos c6] at H
              have c6b0 : decide (x5_1 < (l1.length : Int)) = true := decide_eq_true c6
              clear c6
              by_cases c7 : (rd l0 x5_1) = (rd l1 x5_1)
              · rw [if_pos c7] at H
                have c7b0 : ((rd l0 x5_1) == (rd l1 x5_1)) = true := beq_iff_eq.mpr c7
                have c7b1 : ((rd l0 x5_1) != (rd l1 x5_1)) = false := bne_eq_false_iff_eq.mpr c7
                clear c7
                have H' := Aside0.mk H
                clear H
                have p162 : 0 ≤ (x5_1 : Int) := of_decide_eq_true (by first | (with_reducible assumption) | assumption)
                have q162 : x5_1 < (l0.length : Int) := of_decide_eq_true (by first | (with_reducible assumption) | assumption)
                obtain ⟨ad162, e162, hx162_0⟩ := Kd.at_int HR0.out x5_1 p162 q162
                cases e162
                replace p162 := eq_true p162
                replace q162 := eq_true q162
                have p163 : 0 ≤ (x5_1 : Int) := of_decide_eq_true (by first | (with_reducible assumption) | assumption)
                have q163 : x5_1 < (l1.length : Int) := of_decide_eq_true (by first | (with_reducible assumption) | assumption)
                obtain ⟨ad163, e163, hx163_0⟩ := Kd.at_int HR1.out x5_1 p163 q163
                cases e163
                replace p163 := eq_true p163
                replace q163 := eq_true q163
                go_wp2
                repeat (go_quiet (fail); try go_wp2)
                go_roundg k1
                case measure => have := HK1.out; omega
                case rel => exact ⟨(wrap64 (x5_1 + 1)), (by first | rfl | (simp; done) | (simp [*]; done)), H', ⟨by have := HK1.out; omega⟩, by repeat (first | exact Drawn0.refl _ | apply Drawn0.step)⟩
              · rw [if_neg c7] at H
                have c7b0 : ((rd l0 x5_1) == (rd l1 x5_1)) = false := beq_eq_false_iff_ne.mpr c7
                have c7b1 : ((rd l0 x5_1) != (rd l1 x5_1)) = true := bne_iff_ne.mpr c7
                obtain rfl := Option.some.inj H
                have p162 : 0 ≤ (x5_1 : Int) := of_decide_eq_true (by first | (with_reducible assumption) | assumption)
                have q162 : x5_1 < (l0.length : Int) := of_decide_eq_true (by first | (with_reducible assumption) | assumption)
                obtain ⟨ad162, e162, hx162_0⟩ := Kd.at_int HR0.out x5_1 p162 q162
                cases e162
                replace p162 := eq_true p162
                replace q162 := eq_true q162
                have p163 : 0 ≤ (x5_1 : Int) := of_decide_eq_true (by first | (with_reducible assumption) | assumption)
                have q163 : x5_1 < (l1.length : Int) := of_decide_eq_true (by first | (with_reducible assumption) | assumption)
                obtain ⟨ad163, e163, hx163_0⟩ := Kd.at_int HR1.out x5_1 p163 q163
                cases e163
                replace p163 := eq_true p163
                replace q163 := eq_true q163
                go_wp2
                repeat (go_quiet (fail); try go_wp2)
                go_ret
                exact ⟨by first | rfl | (simp; done) | (simp [*]; done), by repeat (first | exact Drawn0.refl _ | apply Drawn0.step)⟩
            · rw [if_neg c6] at H
              exact absurd H (by simp)
          · rw [if_neg c5] at H
            exact absurd H (by simp)
        · rw [if_neg c4] at H
          have c4b0 : decide (x5_1 < (l0.length : Int)) = false := decide_eq_false c4
          clear c4
          obtain rfl := Option.some.inj H
          go_wp2
          repeat (go_quiet (fail); try go_wp2)
          go_ret
          exact ⟨by first | rfl | (simp; done) | (simp [*]; done), by repeat (first | exact Drawn0.refl _ | apply Drawn0.step)⟩
  · rw [if_neg c3] at H
    have c3b0 : ((l0.length : Int) == (l1.length : Int)) = false := beq_eq_false_iff_ne.mpr c3
    have c3b1 : ((l0.length : Int) != (l1.length : Int)) = true := bne_iff_ne.mpr c3
    have c3b2 : (l0.length == l1.length) = false := by first | simpa using c3 | (simp at c3 ⊢; omega)
    obtain rfl := Option.some.inj H
    go_enter Try.func19, Try.ntmps19
    go_wp2
    repeat (go_quiet (fail); try go_wp2)
    go_ret
    exact ⟨by first | rfl | (simp; done) | (simp [*]; done), by repeat (first | exact Drawn0.refl _ | apply Drawn0.step)⟩

theorem laws_eqIntS.ev (a b : List Int) (ha : a.length ≤ 4611686018427387904) : Ev (fun k => laws_eqIntS.f k a b) (a == b) := by
  unfold laws_eqIntS.f
  by_cases hl : a.length = b.length
  · refine Ev.ip (by omega) ?_
    have key : ∀ d i : Nat, a.length - i = d → i ≤ a.length → Ev (fun k => laws_eqIntS.l0 k a b (i : Int)) (a.drop i == b.drop i) := by
      intro d
      induction d with
      | zero =>
        intro i hd hi
        refine Ev.step (fun _ => by rw [laws_eqIntS.l0]) ?_
        refine Ev.ng (by omega) (Ev.eq (Ev.now _) ?_)
        rw [List.drop_of_length_le (by omega), List.drop_of_length_le (by omega)]; rfl
      | succ d ih =>
        intro i hd hi
        have h1 : i < a.length := by omega
        have h2 : i < b.length := by omega
        refine Ev.step (fun _ => by rw [laws_eqIntS.l0]) ?_
        refine Ev.ip (by omega) (Ev.ip (by omega) (Ev.ip (by omega) ?_))
        rw [rd_nat a i h1, rd_nat b i h2, wrap_succ i (by omega)]
        have e : (a.drop i == b.drop i) = (a[i] == b[i] && a.drop (i + 1) == b.drop (i + 1)) := by
          rw [List.drop_eq_getElem_cons h1, List.drop_eq_getElem_cons h2]; rfl
        rw [e]
        by_cases h : a[i] = b[i]
        · exact Ev.ip h (Ev.eq (ih (i + 1) (by omega) (by omega)) (by simp [h]))
        · exact Ev.ng h (Ev.eq (Ev.now _) (by simp [h]))
    exact key _ 0 rfl (by omega)
  · refine Ev.ng (by omega) (Ev.eq (Ev.now _) ?_)
    symm
    rw [beq_eq_false_iff_ne]
    intro h; exact hl (by rw [h])
theorem laws_eqIntS.T (a : List Int) (ha : a.length ≤ 1048576) : Ev (fun k => laws_eqIntS.f k a a) true := Ev.eq (laws_eqIntS.ev a a (by omega)) (by simp)

end Go.Proofs.Ytcjjmfpkhhdmlaa.G

namespace Go.Proofs.Ytcjjmfpkhhdmlaa.G
open Go.RowKit Go.Proofs.YtcjjmfpkhhdmlaaW.PrintWords Go.Proofs.YtcjjmfpkhhdmlaaW.PrintLast Go.Proofs.YtcjjmfpkhhdmlaaW.PrintMore
attribute [local go_sem] max2_int min2_int max_two min_two max_three min_three max_four min_four   -- for this text's walks alone
set_option linter.unusedVariables false
set_option linter.unusedSimpArgs false

/-! ### laws_markIntS: function 21 -/
def laws_markIntS.l0 : Nat → List Int → Int → Int → Option (Int × List Int)
  | 0, _, _, _ => none
  | k + 1, x0, x1, x5 => if x5 < (x0.length : Int) then (if 0 ≤ x5 then (laws_markIntS.l0 k (x0.set (x5 : Int).toNat x1) (wrap64 (x1 + 1)) (wrap64 (x5 + 1))) else (none)) else (some (x1, x0))
def laws_markIntS.f (k : Nat) (l0 : List Int) (a1 : Int) : Option (Int × List Int) := laws_markIntS.l0 k l0 a1 0
theorem laws_markIntS.mono_l : ∀ k, (∀ y0 y1 y2, LeO (laws_markIntS.l0 k y0 y1 y2) (laws_markIntS.l0 (k + 1) y0 y1 y2))
  | 0 => fun _ _ _ r h => by simp [laws_markIntS.l0] at h
  | k + 1 => by
    have ih0 := laws_markIntS.mono_l k
    · intro y0 y1 y2
      unfold laws_markIntS.l0
      repeat' first
      | (with_reducible exact ih0 _ _ _)
      | (with_reducible exact LeO.refl _)
      | (with_reducible exact LeO.none _)
      | (with_reducible refine LeO.ite ?_ ?_)
      | (with_reducible refine LeO.bind ?_ (fun _ => ?_))
      | exact ih0 _ _ _
      | exact LeO.none _
      | refine LeO.ite ?_ ?_
      | refine LeO.bind ?_ (fun _ => ?_)
theorem laws_markIntS.mono : ∀ a0 a1 k, LeO (laws_markIntS.f k a0 a1) (laws_markIntS.f (k + 1) a0 a1) := by
  intro a0 a1 k
  have ih0 := laws_markIntS.mono_l k
  unfold laws_markIntS.f
  repeat' first
      | (with_reducible exact ih0 _ _ _)
      | (with_reducible exact LeO.refl _)
      | (with_reducible exact LeO.none _)
      | (with_reducible refine LeO.ite ?_ ?_)
      | (with_reducible refine LeO.bind ?_ (fun _ => ?_))
      | exact ih0 _ _ _
      | exact LeO.none _
      | refine LeO.ite ?_ ?_
      | refine LeO.bind ?_ (fun _ => ?_)
set_option maxHeartbeats 8000000 in
set_option maxRecDepth 100000 in
theorem laws_markIntS.calls (k : Nat) (P0_ : Nat → Prop) (u9000_ : Value) (l0 : List Int) (a1 : Int) (r1 : Int) (r2 : List Int) (w0 w : World) (hB : Below w0.heap.size w0 w) (ho0 : Kd.R (Kd.int .i64) 3 w w0.heap.size P0_ u9000_ l0) (h : laws_markIntS.f k l0 a1 = some (r1, r2)) :
    Calls Try.prog 21 #[u9000_, .int .i64 a1] w fun e w' => e = .returned (.int .i64 r1) ∧ Kd.R (Kd.int .i64) 3 w' w0.heap.size (fun k_ => (P0_ k_ ∨ w.heap.size ≤ k_)) u9000_ r2 ∧ Below w0.heap.size w0 w' ∧ Kept w w' (fun k_ => P0_ k_) := by
  have HO0 := Aside0.mk (show Kd.R (Kd.int .i64) 3 w w0.heap.size (fun k_ => (P0_ k_ ∨ w.heap.size ≤ k_)) u9000_ l0 from Kd.R_mono ho0 (fun k_ hk => (.inl hk)))
  have HK := Aside0.mk (Kept.refl w (fun k_ => P0_ k_))
  have HW0 := Aside0.mk hB.size
  have HB := Aside0.mk hB
  clear hB
  have H : (laws_markIntS.l0 k l0 a1 0) = some (r1, r2) := h
  clear h
  have H' := Aside0.mk H
  clear H
  go_enter Try.func21, Try.ntmps21
  go_wp2
  go_loopg [1, 5] k (fun kq v1 v5 w' => ∃ (x0_1 : List Int) (x1_1 : Int) (x5_1 : Int), v1 = .int .i64 x1_1 ∧ v5 = .int .i64 x5_1 ∧ Aside0 (laws_markIntS.l0 kq x0_1 x1_1 x5_1 = some (r1, r2)) ∧ Aside0 (kq ≤ k) ∧ Aside0 (Kd.R (Kd.int .i64) 3 w' w0.heap.size (fun k_ => (P0_ k_ ∨ w.heap.size ≤ k_)) u9000_ x0_1) ∧ Aside0 (Kept w w' (fun k_ => P0_ k_)) ∧ Aside0 (Below w0.heap.size w0 w'))
  case atStart => exact ⟨(l0), (a1), (0), (by first | rfl | (simp; done) | (simp [*]; done)), (by first | rfl | (simp; done) | (simp [*]; done)), H', ⟨Nat.le_refl _⟩, ⟨by (with_reducible repeat (first | apply Kd.R_alloc | apply Kd.R_drewN | apply Kd.R_drew)); exact HO0.out⟩, ⟨by repeat (first | (with_reducible first | exact HK.out | apply Kept.alloc | apply Kept.drewN | apply Kept.drew) | exact HK.out)⟩, ⟨by repeat (first | (with_reducible first | exact HB.out | apply below_alloc | apply pw_below_drewN | apply below_drew1) | exact HB.out)⟩⟩
  case round =>
    clear H'
    try clear c2
    try clear p2
    obtain ⟨x0_1, x1_1, x5_1, rfl, rfl, HA, HK1, HO_0, HK, HB⟩ := hrel
    cases gk with
    | zero => exact absurd HA.out (by simp [laws_markIntS.l0])
    | succ k1 =>
      have H := HA.out
      clear HA
      simp only [laws_markIntS.l0] at H
      by_cases c3 : x5_1 < (x0_1.length : Int)
      · rw [if_pos c3] at H
        have c3b0 : decide (x5_1 < (x0_1.length : Int)) = true := decide_eq_true c3
        clear c3
        by_cases c4 : 0 ≤ x5_1
        · rw [if_pos c4] at H
          have c4b0 : decide (0 ≤ x5_1) = true := decide_eq_true c4
          clear c4
          obtain ⟨y166, hy166⟩ : ∃ y_ : List Int, y_ = (x0_1.set (x5_1 : Int).toNat x1_1) := ⟨_, rfl⟩
          replace H : (laws_markIntS.l0 k1 y166 (wrap64 (x1_1 + 1)) (wrap64 (x5_1 + 1))) = some (r1, r2) := by first | (rw [hy166]; with_reducible exact H) | (have H2_ := (Option.bind_some _ _).symm.trans H; rw [hy166]; with_reducible exact H2_) | (have H2_ := (Option.bind_some _ _).symm.trans H; with_reducible exact H2_) | with_reducible exact H | (rw [hy166]; exact H) | exact H
          have Ny166 := Aside0.mk hy166
          clear hy166
          have H' := Aside0.mk H
          clear H
          obtain ⟨Ao6, co6, eo6⟩ := Kd.R_slice HO_0.out
          subst eo6
          have p5 : 0 ≤ (x5_1 : Int) := of_decide_eq_true (by first | (with_reducible assumption) | assumption)
          have q5 : (x5_1 : Int) < ((x0_1.length : Int) : Int) := of_decide_eq_true (by first | (with_reducible assumption) | assumption)
          obtain ⟨go5, co5, eo5, gb5, gl5, cl5, HG5⟩ := Kd.R_form HO_0.out (by omega)
          (first | cases eo5 | (injection eo5 with ea_ en_ ec_; (first | subst ea_ | (injection ea_ with ea_; subst ea_)); subst ec_; clear en_))
          have GB5 := Aside0.mk gb5
          have GG5 := Aside0.mk HG5
          clear gb5 gl5 HG5
          have HMgo5 := Aside0.mk (show (P0_ go5 ∨ w.heap.size ≤ go5) from (HO_0.out.1 _ rfl))
          obtain ⟨hx5_0, hf5_0⟩ := Kd.R_celln 0 HO_0.out (x5_1 : Int) p5 q5
          replace p5 := eq_true p5
          replace q5 := eq_true q5
          have HP7 := Kd.R_putg HO_0.out (x5_1 : Int) x1_1
          go_wp2_with (first | ((with_reducible refine gate_store (t := 3) (p := 15) rfl ?_); refine store_event (t := 3) (p := 15) (v := ?vo_w8) (w1 := (wr.setCell ⟨go5, (x5_1 : Int).toNat, none⟩ (.int .i64 x1_1))) ?hg ?ho ?hn ?hr ?_; (case ho => rfl); (case hg => rfl); (case hn => rfl); (case hr => first | (go_simp; done) | (go_simp; rfl)); intro w8 hw; have hg : wr.grownBy w8 (some go5) := (by rw [hw]; exact HP7.2); have hp_ : Kd.R (Kd.int .i64) 3 w8 w0.heap.size (fun k_ => (P0_ k_ ∨ w.heap.size ≤ k_)) (.slice (some ⟨go5, 0, none⟩) x0_1.length co6) y166 := (by rw [hw, Ny166.out]; exact HP7.1); clear HP7; have n0_ := Aside0.mk (hp_); have n1_ := Aside0.mk ((by rw [hw]; exact below_set (HB.out) GB5.out : Below w0.heap.size w0 w8)); have n2_ := Aside0.mk (Kept.of_grown (S := (fun k_ => P0_ k_)) hg (by repeat (first | (with_reducible first | exact HK.out | apply Kept.alloc | apply Kept.drewN | apply Kept.drew) | exact HK.out)) (fun k_ e_ => (HO_0.out.1 k_ e_))); clear HO_0; clear HB; clear HK; have HO_0 := n0_; have HB := n1_; have HK := n2_; clear n0_ n1_ n2_; clear hg hw hp_))
          go_roundg k1
          case measure => have := HK1.out; omega
          case rel => exact ⟨(y166), (wrap64 (x1_1 + 1)), (wrap64 (x5_1 + 1)), (by first | rfl | (simp; done) | (simp [*]; done)), (by first | rfl | (simp; done) | (simp [*]; done)), H', ⟨by have := HK1.out; omega⟩, ⟨by (with_reducible repeat (first | apply Kd.R_alloc | apply Kd.R_drewN | apply Kd.R_drew)); exact HO_0.out⟩, ⟨by repeat (first | (with_reducible first | exact HK.out | apply Kept.alloc | apply Kept.drewN | apply Kept.drew) | exact HK.out)⟩, ⟨by repeat (first | (with_reducible first | exact HB.out | apply below_alloc | apply pw_below_drewN | apply below_drew1) | exact HB.out)⟩⟩
        · rw [if_neg c4] at H
          exact absurd H (by simp)
      · rw [if_neg c3] at H
        have c3b0 : decide (x5_1 < (x0_1.length : Int)) = false := decide_eq_false c3
        clear c3
        simp only [Option.some.injEq, Prod.mk.injEq] at H
        obtain ⟨rfl, rfl⟩ := H
        obtain ⟨Ao9, co9, eo9⟩ := Kd.R_slice HO_0.out
        subst eo9
        go_wp2
        go_ret
        exact ⟨by first | rfl | (simp [errW_none, errW_some] <;> rfl) | (simp [*, errW_none, errW_some] <;> rfl), by (with_reducible repeat (first | apply Kd.R_alloc | apply Kd.R_drewN | apply Kd.R_drew)); exact HO_0.out, by repeat (first | (with_reducible first | exact HB.out | apply below_alloc | apply pw_below_drewN | apply below_drew1) | exact HB.out), by repeat (first | (with_reducible first | exact HK.out | apply Kept.alloc | apply Kept.drewN | apply Kept.drew) | exact HK.out)⟩

theorem laws_markIntS.E (l : List Int) (a : Int) (h0 : 0 ≤ a) (h1 : a ≤ 1125899906842624) (hl : l.length ≤ 1048576) : Ev (fun k => laws_markIntS.f k l a) (a + l.length, rising a l.length) := by
  unfold laws_markIntS.f
  have key : ∀ d i : Nat, l.length - i = d → i ≤ l.length → Ev (fun k => laws_markIntS.l0 k (rising a i ++ l.drop i) (a + i) (i : Int)) (a + l.length, rising a l.length) := by
    intro d
    induction d with
    | zero =>
      intro i hd hi
      obtain rfl : i = l.length := by omega
      refine Ev.step (fun _ => by rw [laws_markIntS.l0]) (Ev.ng (by simp [rising_length]) (Ev.eq (Ev.now _) ?_))
      simp
    | succ d ih =>
      intro i hd hi
      have hlt : i < l.length := by omega
      refine Ev.step (fun _ => by rw [laws_markIntS.l0]) (Ev.ip (by simp [rising_length]; omega) (Ev.ip (by omega) ?_))
      rw [wrap_in (a + i + 1) (by omega) (by omega), wrap_succ i (by omega)]
      have e : (rising a i ++ l.drop i).set ((i : Int)).toNat (a + i) = rising a (i + 1) ++ l.drop (i + 1) := by
        rw [Int.toNat_natCast, rising_snoc, List.drop_eq_getElem_cons hlt, List.set_append_right _ _ (by rw [rising_length]; omega), rising_length, Nat.sub_self, List.set_cons_zero, List.append_assoc]
        rfl
      rw [e, show a + i + 1 = a + ((i + 1 : Nat) : Int) by omega]
      exact ih (i + 1) (by omega) (by omega)
  have := key _ 0 rfl (by omega)
  simpa [rising] using this

end Go.Proofs.Ytcjjmfpkhhdmlaa.G

namespace Go.Proofs.Ytcjjmfpkhhdmlaa.G
open Go.RowKit Go.Proofs.YtcjjmfpkhhdmlaaW.PrintWords Go.Proofs.YtcjjmfpkhhdmlaaW.PrintLast Go.Proofs.YtcjjmfpkhhdmlaaW.PrintMore
attribute [local go_sem] max2_int min2_int max_two min_two max_three min_three max_four min_four   -- for this text's walks alone
set_option linter.unusedVariables false
set_option linter.unusedSimpArgs false

/-! ### laws_heldIntS: function 23 -/
def laws_heldIntS.l0 : Nat → List Int → Int → Int → Option (Int)
  | 0, _, _, _ => none
  | k + 1, x0, x1, x5 => if x5 < (x0.length : Int) then (if 0 ≤ x5 then (if (rd x0 x5) = x1 then (laws_heldIntS.l0 k x0 (wrap64 (x1 + 1)) (wrap64 (x5 + 1))) else (some (-1))) else (none)) else (some x1)
def laws_heldIntS.f (k : Nat) (l0 : List Int) (a1 : Int) : Option (Int) := laws_heldIntS.l0 k l0 a1 0
theorem laws_heldIntS.mono_l : ∀ k, (∀ y0 y1 y2, LeO (laws_heldIntS.l0 k y0 y1 y2) (laws_heldIntS.l0 (k + 1) y0 y1 y2))
  | 0 => fun _ _ _ r h => by simp [laws_heldIntS.l0] at h
  | k + 1 => by
    have ih0 := laws_heldIntS.mono_l k
    · intro y0 y1 y2
      unfold laws_heldIntS.l0
      repeat' first
      | (with_reducible exact ih0 _ _ _)
      | (with_reducible exact LeO.refl _)
      | (with_reducible exact LeO.none _)
      | (with_reducible refine LeO.ite ?_ ?_)
      | (with_reducible refine LeO.bind ?_ (fun _ => ?_))
      | exact ih0 _ _ _
      | exact LeO.none _
      | refine LeO.ite ?_ ?_
      | refine LeO.bind ?_ (fun _ => ?_)
theorem laws_heldIntS.mono : ∀ a0 a1 k, LeO (laws_heldIntS.f k a0 a1) (laws_heldIntS.f (k + 1) a0 a1) := by
  intro a0 a1 k
  have ih0 := laws_heldIntS.mono_l k
  unfold laws_heldIntS.f
  repeat' first
      | (with_reducible exact ih0 _ _ _)
      | (with_reducible exact LeO.refl _)
      | (with_reducible exact LeO.none _)
      | (with_reducible refine LeO.ite ?_ ?_)
      | (with_reducible refine LeO.bind ?_ (fun _ => ?_))
      | exact ih0 _ _ _
      | exact LeO.none _
      | refine LeO.ite ?_ ?_
      | refine LeO.bind ?_ (fun _ => ?_)
set_option maxHeartbeats 8000000 in
set_option maxRecDepth 100000 in
theorem laws_heldIntS.calls (k : Nat) (A0 : Option Addr) (c0 : Nat) (l0 : List Int) (a1 : Int) (r : Int) (w : World) (hr0 : Kd.C (Kd.int .i64) w A0 l0.length l0) (hc0 : l0.length ≤ c0) (h : laws_heldIntS.f k l0 a1 = some r) :
    Calls Try.prog 23 #[.slice A0 l0.length c0, .int .i64 a1] w fun e w' => e = .returned (.int .i64 r) ∧ Drawn0 w w' := by
  have HR0 := Aside0.mk hr0
  have HC0 := Aside0.mk hc0
  clear hr0 hc0
  have H : (laws_heldIntS.l0 k l0 a1 0) = some r := h
  clear h
  have H' := Aside0.mk H
  clear H
  go_enter Try.func23, Try.ntmps23
  go_wp2
  go_loopg [1, 5] k (fun kq v1 v5 w' => ∃ (x1_1 : Int) (x5_1 : Int), v1 = .int .i64 x1_1 ∧ v5 = .int .i64 x5_1 ∧ Aside0 (laws_heldIntS.l0 kq l0 x1_1 x5_1 = some r) ∧ Aside0 (kq ≤ k) ∧ Drawn0 w w')
  case atStart => exact ⟨(a1), (0), (by first | rfl | (simp; done) | (simp [*]; done)), (by first | rfl | (simp; done) | (simp [*]; done)), H', ⟨Nat.le_refl _⟩, by repeat (first | exact Drawn0.refl _ | apply Drawn0.step)⟩
  case round =>
    clear H'
    try clear c2
    try clear p2
    obtain ⟨x1_1, x5_1, rfl, rfl, HA, HK1, ⟨m1, rfl⟩⟩ := hrel
    cases gk with
    | zero => exact absurd HA.out (by simp [laws_heldIntS.l0])
    | succ k1 =>
      have H := HA.out
      clear HA
      simp only [laws_heldIntS.l0] at H
      by_cases c3 : x5_1 < (l0.length : Int)
      · rw [if_pos c3] at H
        have c3b0 : decide (x5_1 < (l0.length : Int)) = true := decide_eq_true c3
        clear c3
        by_cases c4 : 0 ≤ x5_1
        · rw [if_pos c4] at H
          have c4b0 : decide (0 ≤ x5_1) = true := decide_eq_true c4
          clear c4
          by_cases c5 : (rd l0 x5_1) = x1_1
          · rw [if_pos c5] at H
            have c5b0 : ((rd l0 x5_1) == x1_1) = true := beq_iff_eq.mpr c5
            have c5b1 : ((rd l0 x5_1) != x1_1) = false := bne_eq_false_iff_eq.mpr c5
            clear c5
            have H' := Aside0.mk H
            clear H
            have p168 : 0 ≤ (x5_1 : Int) := of_decide_eq_true (by first | (with_reducible assumption) | assumption)
            have q168 : x5_1 < (l0.length : Int) := of_decide_eq_true (by first | (with_reducible assumption) | assumption)
            obtain ⟨ad168, e168, hx168_0⟩ := Kd.at_int HR0.out x5_1 p168 q168
            cases e168
            replace p168 := eq_true p168
            replace q168 := eq_true q168
            go_wp2
            go_roundg k1
            case measure => have := HK1.out; omega
            case rel => exact ⟨(wrap64 (x1_1 + 1)), (wrap64 (x5_1 + 1)), (by first | rfl | (simp; done) | (simp [*]; done)), (by first | rfl | (simp; done) | (simp [*]; done)), H', ⟨by have := HK1.out; omega⟩, by repeat (first | exact Drawn0.refl _ | apply Drawn0.step)⟩
          · rw [if_neg c5] at H
            have c5b0 : ((rd l0 x5_1) == x1_1) = false := beq_eq_false_iff_ne.mpr c5
            have c5b1 : ((rd l0 x5_1) != x1_1) = true := bne_iff_ne.mpr c5
            obtain rfl := Option.some.inj H
            have p168 : 0 ≤ (x5_1 : Int) := of_decide_eq_true (by first | (with_reducible assumption) | assumption)
            have q168 : x5_1 < (l0.length : Int) := of_decide_eq_true (by first | (with_reducible assumption) | assumption)
            obtain ⟨ad168, e168, hx168_0⟩ := Kd.at_int HR0.out x5_1 p168 q168
            cases e168
            replace p168 := eq_true p168
            replace q168 := eq_true q168
            go_wp2
            go_ret
            exact ⟨by first | rfl | (simp; done) | (simp [*]; done), by repeat (first | exact Drawn0.refl _ | apply Drawn0.step)⟩
        · rw [if_neg c4] at H
          exact absurd H (by simp)
      · rw [if_neg c3] at H
        have c3b0 : decide (x5_1 < (l0.length : Int)) = false := decide_eq_false c3
        clear c3
        obtain rfl := Option.some.inj H
        go_wp2
        go_ret
        exact ⟨by first | rfl | (simp; done) | (simp [*]; done), by repeat (first | exact Drawn0.refl _ | apply Drawn0.step)⟩

theorem laws_heldIntS.E (a : Int) (n : Nat) (h0 : 0 ≤ a) (h1 : a ≤ 1125899906842624) (hl : n ≤ 1048576) : Ev (fun k => laws_heldIntS.f k (rising a n) a) (a + n) := by
  unfold laws_heldIntS.f
  have key : ∀ d i : Nat, n - i = d → i ≤ n → Ev (fun k => laws_heldIntS.l0 k (rising a n) (a + i) (i : Int)) (a + n) := by
    intro d
    induction d with
    | zero =>
      intro i hd hi
      obtain rfl : i = n := by omega
      exact Ev.step (fun _ => by rw [laws_heldIntS.l0]) (Ev.ng (by simp [rising_length]) (Ev.now _))
    | succ d ih =>
      intro i hd hi
      have hlt : i < n := by omega
      refine Ev.step (fun _ => by rw [laws_heldIntS.l0]) (Ev.ip (by simp [rising_length]; omega) (Ev.ip (by omega) (Ev.ip ?_ ?_)))
      · rw [rd_nat _ i (by rw [rising_length]; omega), rising_get]
      · rw [wrap_in (a + i + 1) (by omega) (by omega), wrap_succ i (by omega), show a + i + 1 = a + ((i + 1 : Nat) : Int) by omega]
        exact ih (i + 1) (by omega) (by omega)
  have := key _ 0 rfl (by omega)
  simpa using this
theorem laws_heldIntS.R (k : Nat) (A0 : Option Addr) (n c0 : Nat) (l0 : List Int) (a1 : Int) (r : Int) (w : World) (base : Nat) (ok : Nat → Prop) (hr0 : Kd.R (Kd.int .i64) 3 w base ok (.slice A0 n c0) l0) (h : laws_heldIntS.f k l0 a1 = some r) :
    Calls Try.prog 23 #[.slice A0 n c0, .int .i64 a1] w fun e w' => e = .returned (.int .i64 r) ∧ Drawn0 w w' := by
  obtain ⟨rfl, h1, h2⟩ := Kd.R_reads' hr0
  exact laws_heldIntS.calls k A0 c0 l0 a1 r w h2 h1 h

end Go.Proofs.Ytcjjmfpkhhdmlaa.G

namespace Go.Proofs.Ytcjjmfpkhhdmlaa.G
open Go.RowKit Go.Proofs.YtcjjmfpkhhdmlaaW.PrintWords Go.Proofs.YtcjjmfpkhhdmlaaW.PrintLast Go.Proofs.YtcjjmfpkhhdmlaaW.PrintMore
attribute [local go_sem] max2_int min2_int max_two min_two max_three min_three max_four min_four   -- for this text's walks alone
set_option linter.unusedVariables false
set_option linter.unusedSimpArgs false

/-! ### laws_szIntS: function 103 -/
def laws_szIntS.f (l0 : List Int) (a1 : Int) : Option (Int) := if (wrap64 (a1 - (l0.length : Int))) < 0 then (some (-1)) else (some (wrap64 (a1 - (l0.length : Int))))
set_option maxHeartbeats 8000000 in
set_option maxRecDepth 100000 in
theorem laws_szIntS.calls (A0 : Option Addr) (c0 : Nat) (l0 : List Int) (a1 : Int) (r : Int) (w : World) (hr0 : Kd.C (Kd.int .i64) w A0 l0.length l0) (hc0 : l0.length ≤ c0) (h : laws_szIntS.f l0 a1 = some r) :
    Calls Try.prog 103 #[.slice A0 l0.length c0, .int .i64 a1] w fun e w' => e = .returned (.int .i64 r) ∧ Drawn0 w w' := by
  have HR0 := Aside0.mk hr0
  have HC0 := Aside0.mk hc0
  clear hr0 hc0
  have H : (if (wrap64 (a1 - (l0.length : Int))) < 0 then (some (-1)) else (some (wrap64 (a1 - (l0.length : Int))))) = some r := h
  clear h
  by_cases c3 : (wrap64 (a1 - (l0.length : Int))) < 0
  · rw [if_pos c3] at H
    have c3b0 : decide ((wrap64 (a1 - (l0.length : Int))) < 0) = true := decide_eq_true c3
    clear c3
    obtain rfl := Option.some.inj H
    go_enter Try.func103, Try.ntmps103
    go_wp2
    go_ret
    exact ⟨by first | rfl | (simp; done) | (simp [*]; done), by repeat (first | exact Drawn0.refl _ | apply Drawn0.step)⟩
  · rw [if_neg c3] at H
    have c3b0 : decide ((wrap64 (a1 - (l0.length : Int))) < 0) = false := decide_eq_false c3
    clear c3
    obtain rfl := Option.some.inj H
    go_enter Try.func103, Try.ntmps103
    go_wp2
    go_ret
    exact ⟨by first | rfl | (simp; done) | (simp [*]; done), by repeat (first | exact Drawn0.refl _ | apply Drawn0.step)⟩

end Go.Proofs.Ytcjjmfpkhhdmlaa.G

namespace Go.Proofs.Ytcjjmfpkhhdmlaa.G
open Go.RowKit Go.Proofs.YtcjjmfpkhhdmlaaW.PrintWords Go.Proofs.YtcjjmfpkhhdmlaaW.PrintLast Go.Proofs.YtcjjmfpkhhdmlaaW.PrintMore
attribute [local go_sem] max2_int min2_int max_two min_two max_three min_three max_four min_four   -- for this text's walks alone
set_option linter.unusedVariables false
set_option linter.unusedSimpArgs false

/-! ### laws_szIntSS: function 35 -/
def laws_szIntSS.l0 : Nat → List (List Int) → Int → Int → Option (Int)
  | 0, _, _, _ => none
  | k + 1, x0, x1, x5 => if x5 < (x0.length : Int) then (if 0 ≤ x5 then ((laws_szIntS.f (rd_L3 x0 x5) x1).bind fun t388 => (if t388 < 0 then (some (-1)) else (laws_szIntSS.l0 k x0 t388 (wrap64 (x5 + 1))))) else (none)) else (some x1)
def laws_szIntSS.f (k : Nat) (l0 : List (List Int)) (a1 : Int) : Option (Int) := if (wrap64 (a1 - (l0.length : Int))) < 0 then (some (-1)) else (laws_szIntSS.l0 k l0 (wrap64 (a1 - (l0.length : Int))) 0)
theorem laws_szIntSS.mono_l : ∀ k, (∀ y0 y1 y2, LeO (laws_szIntSS.l0 k y0 y1 y2) (laws_szIntSS.l0 (k + 1) y0 y1 y2))
  | 0 => fun _ _ _ r h => by simp [laws_szIntSS.l0] at h
  | k + 1 => by
    have ih0 := laws_szIntSS.mono_l k
    · intro y0 y1 y2
      unfold laws_szIntSS.l0
      repeat' first
      | (with_reducible exact ih0 _ _ _)
      | (with_reducible exact LeO.refl _)
      | (with_reducible exact LeO.none _)
      | (with_reducible refine LeO.ite ?_ ?_)
      | (with_reducible refine LeO.bind ?_ (fun _ => ?_))
      | exact ih0 _ _ _
      | exact LeO.none _
      | refine LeO.ite ?_ ?_
      | refine LeO.bind ?_ (fun _ => ?_)
theorem laws_szIntSS.mono : ∀ a0 a1 k, LeO (laws_szIntSS.f k a0 a1) (laws_szIntSS.f (k + 1) a0 a1) := by
  intro a0 a1 k
  have ih0 := laws_szIntSS.mono_l k
  unfold laws_szIntSS.f
  repeat' first
      | (with_reducible exact ih0 _ _ _)
      | (with_reducible exact LeO.refl _)
      | (with_reducible exact LeO.none _)
      | (with_reducible refine LeO.ite ?_ ?_)
      | (with_reducible refine LeO.bind ?_ (fun _ => ?_))
      | exact ih0 _ _ _
      | exact LeO.none _
      | refine LeO.ite ?_ ?_
      | refine LeO.bind ?_ (fun _ => ?_)
set_option maxHeartbeats 8000000 in
set_option maxRecDepth 100000 in
theorem laws_szIntSS.calls (k : Nat) (A0 : Option Addr) (c0 : Nat) (l0 : List (List Int)) (a1 : Int) (r : Int) (w : World) (hr0 : Kd.C (Kd.slice 3 (Kd.int .i64)) w A0 l0.length l0) (hc0 : l0.length ≤ c0) (h : laws_szIntSS.f k l0 a1 = some r) :
    Calls Try.prog 35 #[.slice A0 l0.length c0, .int .i64 a1] w fun e w' => e = .returned (.int .i64 r) ∧ Drawn0 w w' := by
  have HR0 := Aside0.mk hr0
  have HC0 := Aside0.mk hc0
  clear hr0 hc0
  have H : (if (wrap64 (a1 - (l0.length : Int))) < 0 then (some (-1)) else (laws_szIntSS.l0 k l0 (wrap64 (a1 - (l0.length : Int))) 0)) = some r := h
  clear h
  by_cases c3 : (wrap64 (a1 - (l0.length : Int))) < 0
  · rw [if_pos c3] at H
    have c3b0 : decide ((wrap64 (a1 - (l0.length : Int))) < 0) = true := decide_eq_true c3
    clear c3
    obtain rfl := Option.some.inj H
    go_enter Try.func35, Try.ntmps35
    go_wp2
    go_ret
    exact ⟨by first | rfl | (simp; done) | (simp [*]; done), by repeat (first | exact Drawn0.refl _ | apply Drawn0.step)⟩
  · rw [if_neg c3] at H
    have c3b0 : decide ((wrap64 (a1 - (l0.length : Int))) < 0) = false := decide_eq_false c3
    clear c3
    have H' := Aside0.mk H
    clear H
    go_enter Try.func35, Try.ntmps35
    go_wp2
    go_loopg [1, 5] k (fun kq v1 v5 w' => ∃ (x1_1 : Int) (x5_1 : Int), v1 = .int .i64 x1_1 ∧ v5 = .int .i64 x5_1 ∧ Aside0 (laws_szIntSS.l0 kq l0 x1_1 x5_1 = some r) ∧ Aside0 (kq ≤ k) ∧ Drawn0 w w')
    case atStart => exact ⟨(wrap64 (a1 - (l0.length : Int))), (0), (by first | rfl | (simp; done) | (simp [*]; done)), (by first | rfl | (simp; done) | (simp [*]; done)), H', ⟨Nat.le_refl _⟩, by repeat (first | exact Drawn0.refl _ | apply Drawn0.step)⟩
    case round =>
      clear H'
      try clear p2
      try clear c3
      try clear c3b0
      obtain ⟨x1_1, x5_1, rfl, rfl, HA, HK1, ⟨m1, rfl⟩⟩ := hrel
      cases gk with
      | zero => exact absurd HA.out (by simp [laws_szIntSS.l0])
      | succ k1 =>
        have H := HA.out
        clear HA
        simp only [laws_szIntSS.l0] at H
        by_cases c4 : x5_1 < (l0.length : Int)
        · rw [if_pos c4] at H
          have c4b0 : decide (x5_1 < (l0.length : Int)) = true := decide_eq_true c4
          clear c4
          by_cases c5 : 0 ≤ x5_1
          · rw [if_pos c5] at H
            have c5b0 : decide (0 ≤ x5_1) = true := decide_eq_true c5
            clear c5
            replace H := Option.bind_eq_some_iff.mp H
            obtain ⟨t388, A60, H⟩ := H
            replace H : (if t388 < 0 then (some (-1)) else (laws_szIntSS.l0 k1 l0 t388 (wrap64 (x5_1 + 1)))) = some r := H
            have A6 := Aside0.mk A60
            clear A60
            by_cases c7 : t388 < 0
            · rw [if_pos c7] at H
              have c7b0 : decide (t388 < 0) = true := decide_eq_true c7
              clear c7
              obtain rfl := Option.some.inj H
              have p387 : 0 ≤ (x5_1 : Int) := of_decide_eq_true (by first | (with_reducible assumption) | assumption)
              have q387 : x5_1 < (l0.length : Int) := of_decide_eq_true (by first | (with_reducible assumption) | assumption)
              obtain ⟨ad387, A387_0, c387_0, e387, hx387_0, hl387_0, hi387_0⟩ := at_L3 HR0.out x5_1 p387 q387
              cases e387
              have HR387_0 := Aside0.mk hi387_0
              have HC387_0 := Aside0.mk hl387_0
              clear hi387_0 hl387_0
              replace p387 := eq_true p387
              replace q387 := eq_true q387
              go_wp2_with (first | ((with_reducible refine gate_callee (f := 103) rfl ?_); refine goesL_ (some 23) rfl rfl Try.func103 (by kernel_rfl) rfl #[.slice A387_0 (rd_L3 l0 x5_1).length c387_0, .int .i64 x1_1] rfl (by (try simp only [List.map_toArray, List.map_cons, List.map_nil]); first | done | rfl | (simp only [List.length_drop, List.length_take]; rfl)) ?_; (with_reducible refine (laws_szIntS.calls _ _ (rd_L3 l0 x5_1) x1_1 t388 _ ?side1 ?side2 A6.out).mono ?_); (case side1 => repeat (first | exact HR387_0.out | (with_reducible refine Kd.C_alloc ?_ _) | (with_reducible refine Kd.C_drewN ?_ _) | (with_reducible refine Kd.C_drew ?_))); (case side2 => exact HC387_0.out); rintro e w' ⟨rfl, ⟨nd, rfl⟩⟩; refine ⟨_, rfl, ?_⟩))
              go_ret
              exact ⟨by first | rfl | (simp; done) | (simp [*]; done), by repeat (first | exact Drawn0.refl _ | apply Drawn0.step)⟩
            · rw [if_neg c7] at H
              have c7b0 : decide (t388 < 0) = false := decide_eq_false c7
              clear c7
              have H' := Aside0.mk H
              clear H
              have p387 : 0 ≤ (x5_1 : Int) := of_decide_eq_true (by first | (with_reducible assumption) | assumption)
              have q387 : x5_1 < (l0.length : Int) := of_decide_eq_true (by first | (with_reducible assumption) | assumption)
              obtain ⟨ad387, A387_0, c387_0, e387, hx387_0, hl387_0, hi387_0⟩ := at_L3 HR0.out x5_1 p387 q387
              cases e387
              have HR387_0 := Aside0.mk hi387_0
              have HC387_0 := Aside0.mk hl387_0
              clear hi387_0 hl387_0
              replace p387 := eq_true p387
              replace q387 := eq_true q387
              go_wp2_with (first | ((with_reducible refine gate_callee (f := 103) rfl ?_); refine goesL_ (some 23) rfl rfl Try.func103 (by kernel_rfl) rfl #[.slice A387_0 (rd_L3 l0 x5_1).length c387_0, .int .i64 x1_1] rfl (by (try simp only [List.map_toArray, List.map_cons, List.map_nil]); first | done | rfl | (simp only [List.length_drop, List.length_take]; rfl)) ?_; (with_reducible refine (laws_szIntS.calls _ _ (rd_L3 l0 x5_1) x1_1 t388 _ ?side1 ?side2 A6.out).mono ?_); (case side1 => repeat (first | exact HR387_0.out | (with_reducible refine Kd.C_alloc ?_ _) | (with_reducible refine Kd.C_drewN ?_ _) | (with_reducible refine Kd.C_drew ?_))); (case side2 => exact HC387_0.out); rintro e w' ⟨rfl, ⟨nd, rfl⟩⟩; refine ⟨_, rfl, ?_⟩))
              go_roundg k1
              case measure => have := HK1.out; omega
              case rel => exact ⟨(t388), (wrap64 (x5_1 + 1)), (by first | rfl | (simp; done) | (simp [*]; done)), (by first | rfl | (simp; done) | (simp [*]; done)), H', ⟨by have := HK1.out; omega⟩, by repeat (first | exact Drawn0.refl _ | apply Drawn0.step)⟩
          · rw [if_neg c5] at H
            exact absurd H (by simp)
        · rw [if_neg c4] at H
          have c4b0 : decide (x5_1 < (l0.length : Int)) = false := decide_eq_false c4
          clear c4
          obtain rfl := Option.some.inj H
          go_wp2
          go_ret
          exact ⟨by first | rfl | (simp; done) | (simp [*]; done), by repeat (first | exact Drawn0.refl _ | apply Drawn0.step)⟩

theorem laws_szIntS.val (l : List Int) (a : Int) (h0 : 0 ≤ a) (h1 : a ≤ 1048576) (hl : l.length ≤ 9223372036854775807) : ∃ r, laws_szIntS.f l a = some r ∧ r ≤ a ∧ (0 ≤ r → (l.length : Int) ≤ a) := by
  unfold laws_szIntS.f
  rw [wrap_in _ (by omega) (by omega)]
  by_cases h : a - (l.length : Int) < 0
  · exact ⟨_, if_pos h, by omega, by omega⟩
  · exact ⟨_, if_neg h, by omega, by omega⟩
theorem laws_szIntSS.ev (l : List (List Int)) (a : Int) (h0 : 0 ≤ a) (h1 : a ≤ 1048576) (hl : l.length ≤ 9223372036854775807) (hx : ∀ x ∈ l, x.length ≤ 9223372036854775807) : ∃ r, Ev (fun k => laws_szIntSS.f k l a) r ∧ r ≤ a ∧ (0 ≤ r → l.length ≤ 1048576 ∧ ∀ x ∈ l, x.length ≤ 1048576) := by
  unfold laws_szIntSS.f
  rw [wrap_in _ (by omega) (by omega)]
  by_cases h : a - (l.length : Int) < 0
  · exact ⟨_, Ev.ip h (Ev.now _), by omega, by omega⟩
  · have key : ∀ d i : Nat, ∀ b : Int, l.length - i = d → i ≤ l.length → 0 ≤ b → b ≤ 1048576 → ∃ r, Ev (fun k => laws_szIntSS.l0 k l b (i : Int)) r ∧ r ≤ b ∧ (0 ≤ r → ∀ x ∈ l.drop i, x.length ≤ 1048576) := by
      intro d
      induction d with
      | zero =>
        intro i b hd hi hb0 hb1
        exact ⟨b, Ev.step (fun _ => by rw [laws_szIntSS.l0]) (Ev.ng (by omega) (Ev.now _)), by omega, fun _ x hx => by rw [List.drop_of_length_le (by omega)] at hx; cases hx⟩
      | succ d ih =>
        intro i b hd hi hb0 hb1
        have hlt : i < l.length := by omega
        obtain ⟨q, hq, hqb, hq0⟩ := laws_szIntS.val l[i] b hb0 hb1 (hx _ (List.getElem_mem _))
        by_cases hneg : q < 0
        · refine ⟨-1, Ev.step (fun _ => by rw [laws_szIntSS.l0]) (Ev.ip (by omega) (Ev.ip (by omega) ?_)), by omega, by omega⟩
          rw [show rd_L3 l (i : Int) = l[i] by simp [rd_L3, hlt]]
          exact Ev.bind (Ev.c hq) (Ev.ip hneg (Ev.now _))
        · obtain ⟨r, hr, hrb, hr0⟩ := ih (i + 1) q (by omega) (by omega) (by omega) (by omega)
          refine ⟨r, Ev.step (fun _ => by rw [laws_szIntSS.l0]) (Ev.ip (by omega) (Ev.ip (by omega) ?_)), by omega, fun h0r x hxm => ?_⟩
          · rw [show rd_L3 l (i : Int) = l[i] by simp [rd_L3, hlt], wrap_succ i (by omega)]
            exact Ev.bind (Ev.c hq) (Ev.ng hneg hr)
          · rw [List.drop_eq_getElem_cons hlt] at hxm
            rcases List.mem_cons.1 hxm with rfl | hxm
            · have := hq0 (by omega); omega
            · exact hr0 h0r x hxm
    obtain ⟨r, hr, hrb, hr0⟩ := key _ 0 (a - l.length) rfl (by omega) (by omega) (by omega)
    refine ⟨r, Ev.ng h hr, by omega, fun h0r => ⟨by omega, ?_⟩⟩
    simpa using hr0 h0r

end Go.Proofs.Ytcjjmfpkhhdmlaa.G

namespace Go.Proofs.Ytcjjmfpkhhdmlaa.G
open Go.RowKit Go.Proofs.YtcjjmfpkhhdmlaaW.PrintWords Go.Proofs.YtcjjmfpkhhdmlaaW.PrintLast Go.Proofs.YtcjjmfpkhhdmlaaW.PrintMore
attribute [local go_sem] max2_int min2_int max_two min_two max_three min_three max_four min_four   -- for this text's walks alone
set_option linter.unusedVariables false
set_option linter.unusedSimpArgs false

/-! ### spec_l01Between: function 78 -/
def spec_l01Between.f (a0 : Int) (a1 : Int) (a2 : Int) : Option (Bool) := if a0 ≥ a1 then (some (decide (a0 ≤ a2))) else (some false)
set_option maxHeartbeats 8000000 in
set_option maxRecDepth 100000 in
theorem spec_l01Between.calls (a0 : Int) (a1 : Int) (a2 : Int) (r : Bool) (w : World) (h : spec_l01Between.f a0 a1 a2 = some r) :
    Calls Try.prog 78 #[.int .i64 a0, .int .i64 a1, .int .i64 a2] w fun e w' => e = .returned (.bool r) ∧ Drawn0 w w' := by
  have H : (if a0 ≥ a1 then (some (decide (a0 ≤ a2))) else (some false)) = some r := h
  clear h
  by_cases c4 : a0 ≥ a1
  · rw [if_pos c4] at H
    have c4b0 : decide (a1 ≤ a0) = true := decide_eq_true c4
    clear c4
    obtain rfl := Option.some.inj H
    go_enter Try.func78, Try.ntmps78
    go_wp2
    go_ret
    exact ⟨by first | rfl | (simp; done) | (simp [*]; done), by repeat (first | exact Drawn0.refl _ | apply Drawn0.step)⟩
  · rw [if_neg c4] at H
    have c4b0 : decide (a1 ≤ a0) = false := decide_eq_false c4
    clear c4
    obtain rfl := Option.some.inj H
    go_enter Try.func78, Try.ntmps78
    go_wp2
    go_ret
    exact ⟨by first | rfl | (simp; done) | (simp [*]; done), by repeat (first | exact Drawn0.refl _ | apply Drawn0.step)⟩

theorem spec_l01Between.val (x lo hi : Int) : spec_l01Between.f x lo hi = some (decide (lo ≤ x) && decide (x ≤ hi)) := by
  unfold spec_l01Between.f
  by_cases h1 : x ≥ lo
  · rw [if_pos h1]; simp [ge_iff_le.mp h1]
  · rw [if_neg h1]; have : ¬ lo ≤ x := h1; simp [this]

end Go.Proofs.Ytcjjmfpkhhdmlaa.G

namespace Go.Proofs.Ytcjjmfpkhhdmlaa.G
open Go.RowKit Go.Proofs.YtcjjmfpkhhdmlaaW.PrintWords Go.Proofs.YtcjjmfpkhhdmlaaW.PrintLast Go.Proofs.YtcjjmfpkhhdmlaaW.PrintMore
attribute [local go_sem] max2_int min2_int max_two min_two max_three min_three max_four min_four   -- for this text's walks alone
set_option linter.unusedVariables false
set_option linter.unusedSimpArgs false

/-! ### spec_l21Px: function 116 -/
def spec_l21Px.l0 : Nat → List Int → Int → Option (Bool)
  | 0, _, _ => none
  | k + 1, x0, x3 => if x3 < 3 then (if 0 ≤ x3 then (if x3 < (x0.length : Int) then ((spec_l01Between.f (rd x0 x3) 0 255).bind fun t390 => (if t390 = true then (spec_l21Px.l0 k x0 (wrap64 (x3 + 1))) else (some false))) else (none)) else (none)) else (some true)
def spec_l21Px.f (k : Nat) (l0 : List Int) : Option (Bool) := if (l0.length : Int) = 3 then (spec_l21Px.l0 k l0 0) else (some false)
theorem spec_l21Px.mono_l : ∀ k, (∀ y0 y1, LeO (spec_l21Px.l0 k y0 y1) (spec_l21Px.l0 (k + 1) y0 y1))
  | 0 => fun _ _ r h => by simp [spec_l21Px.l0] at h
  | k + 1 => by
    have ih0 := spec_l21Px.mono_l k
    · intro y0 y1
      unfold spec_l21Px.l0
      repeat' first
      | (with_reducible exact ih0 _ _)
      | (with_reducible exact LeO.refl _)
      | (with_reducible exact LeO.none _)
      | (with_reducible refine LeO.ite ?_ ?_)
      | (with_reducible refine LeO.bind ?_ (fun _ => ?_))
      | exact ih0 _ _
      | exact LeO.none _
      | refine LeO.ite ?_ ?_
      | refine LeO.bind ?_ (fun _ => ?_)
theorem spec_l21Px.mono : ∀ a0 k, LeO (spec_l21Px.f k a0) (spec_l21Px.f (k + 1) a0) := by
  intro a0 k
  have ih0 := spec_l21Px.mono_l k
  unfold spec_l21Px.f
  repeat' first
      | (with_reducible exact ih0 _ _)
      | (with_reducible exact LeO.refl _)
      | (with_reducible exact LeO.none _)
      | (with_reducible refine LeO.ite ?_ ?_)
      | (with_reducible refine LeO.bind ?_ (fun _ => ?_))
      | exact ih0 _ _
      | exact LeO.none _
      | refine LeO.ite ?_ ?_
      | refine LeO.bind ?_ (fun _ => ?_)
set_option maxHeartbeats 8000000 in
set_option maxRecDepth 100000 in
theorem spec_l21Px.calls (k : Nat) (A0 : Option Addr) (c0 : Nat) (l0 : List Int) (r : Bool) (w : World) (hr0 : Kd.C (Kd.int .i64) w A0 l0.length l0) (hc0 : l0.length ≤ c0) (h : spec_l21Px.f k l0 = some r) :
    Calls Try.prog 116 #[.slice A0 l0.length c0] w fun e w' => e = .returned (.bool r) ∧ Drawn0 w w' := by
  have HR0 := Aside0.mk hr0
  have HC0 := Aside0.mk hc0
  clear hr0 hc0
  have H : (if (l0.length : Int) = 3 then (spec_l21Px.l0 k l0 0) else (some false)) = some r := h
  clear h
  by_cases c2 : (l0.length : Int) = 3
  · rw [if_pos c2] at H
    have c2b0 : ((l0.length : Int) == 3) = true := beq_iff_eq.mpr c2
    have c2b1 : ((l0.length : Int) != 3) = false := bne_eq_false_iff_eq.mpr c2
    clear c2
    have H' := Aside0.mk H
    clear H
    go_enter Try.func116, Try.ntmps116
    go_wp2
    go_loopg [3] k (fun kq v3 w' => ∃ (x3_1 : Int), v3 = .int .i64 x3_1 ∧ Aside0 (spec_l21Px.l0 kq l0 x3_1 = some r) ∧ Aside0 (kq ≤ k) ∧ Drawn0 w w')
    case atStart => exact ⟨(0), (by first | rfl | (simp; done) | (simp [*]; done)), H', ⟨Nat.le_refl _⟩, by repeat (first | exact Drawn0.refl _ | apply Drawn0.step)⟩
    case round =>
      clear H'
      try clear c1
      try clear c2
      try clear c2b0
      try clear c2b1
      try clear p2
      obtain ⟨x3_1, rfl, HA, HK1, ⟨m1, rfl⟩⟩ := hrel
      cases gk with
      | zero => exact absurd HA.out (by simp [spec_l21Px.l0])
      | succ k1 =>
        have H := HA.out
        clear HA
        simp only [spec_l21Px.l0] at H
        by_cases c3 : x3_1 < 3
        · rw [if_pos c3] at H
          have c3b0 : decide (x3_1 < 3) = true := decide_eq_true c3
          clear c3
          by_cases c4 : 0 ≤ x3_1
          · rw [if_pos c4] at H
            have c4b0 : decide (0 ≤ x3_1) = true := decide_eq_true c4
            clear c4
            by_cases c5 : x3_1 < (l0.length : Int)
            · rw [if_pos c5] at H
              have c5b0 : decide (x3_1 < (l0.length : Int)) = true := decide_eq_true c5
              clear c5
              replace H := Option.bind_eq_some_iff.mp H
              obtain ⟨t390, A60, H⟩ := H
              replace H : (if t390 = true then (spec_l21Px.l0 k1 l0 (wrap64 (x3_1 + 1))) else (some false)) = some r := H
              have A6 := Aside0.mk A60
              clear A60
              by_cases c7 : t390 = true
              · subst c7
                have H1 : (spec_l21Px.l0 k1 l0 (wrap64 (x3_1 + 1))) = some r := by rw [if_pos rfl] at H; exact H
                clear H
                have H := H1
                clear H1
                have H' := Aside0.mk H
                clear H
                have p389 : 0 ≤ (x3_1 : Int) := of_decide_eq_true (by first | (with_reducible assumption) | assumption)
                have q389 : x3_1 < (l0.length : Int) := of_decide_eq_true (by first | (with_reducible assumption) | assumption)
                obtain ⟨ad389, e389, hx389_0⟩ := Kd.at_int HR0.out x3_1 p389 q389
                cases e389
                replace p389 := eq_true p389
                replace q389 := eq_true q389
                go_wp2_with (first | ((with_reducible refine gate_callee (f := 78) rfl ?_); refine goesL_ (some 15) rfl rfl Try.func78 (by kernel_rfl) rfl #[.int .i64 (rd l0 x3_1), .int .i64 0, .int .i64 255] rfl (by (try simp only [List.map_toArray, List.map_cons, List.map_nil]); first | done | rfl | (simp only [List.length_drop, List.length_take]; rfl)) ?_; (with_reducible refine (spec_l01Between.calls (rd l0 x3_1) 0 255 true _ A6.out).mono ?_); rintro e w' ⟨rfl, ⟨nd, rfl⟩⟩; refine ⟨_, rfl, ?_⟩))
                go_roundg k1
                case measure => have := HK1.out; omega
                case rel => exact ⟨(wrap64 (x3_1 + 1)), (by first | rfl | (simp; done) | (simp [*]; done)), H', ⟨by have := HK1.out; omega⟩, by repeat (first | exact Drawn0.refl _ | apply Drawn0.step)⟩
              · replace c7 := Bool.eq_false_iff.mpr c7
                subst c7
                have H1 : (some false) = some r := by rw [if_neg (show ¬ (false = true) by decide)] at H; exact H
                clear H
                have H := H1
                clear H1
                obtain rfl := Option.some.inj H
                have p389 : 0 ≤ (x3_1 : Int) := of_decide_eq_true (by first | (with_reducible assumption) | assumption)
                have q389 : x3_1 < (l0.length : Int) := of_decide_eq_true (by first | (with_reducible assumption) | assumption)
                obtain ⟨ad389, e389, hx389_0⟩ := Kd.at_int HR0.out x3_1 p389 q389
                cases e389
                replace p389 := eq_true p389
                replace q389 := eq_true q389
                go_wp2_with (first | ((with_reducible refine gate_callee (f := 78) rfl ?_); refine goesL_ (some 15) rfl rfl Try.func78 (by kernel_rfl) rfl #[.int .i64 (rd l0 x3_1), .int .i64 0, .int .i64 255] rfl (by (try simp only [List.map_toArray, List.map_cons, List.map_nil]); first | done | rfl | (simp only [List.length_drop, List.length_take]; rfl)) ?_; (with_reducible refine (spec_l01Between.calls (rd l0 x3_1) 0 255 false _ A6.out).mono ?_); rintro e w' ⟨rfl, ⟨nd, rfl⟩⟩; refine ⟨_, rfl, ?_⟩))
                go_ret
                exact ⟨by first | rfl | (simp; done) | (simp [*]; done), by repeat (first | exact Drawn0.refl _ | apply Drawn0.step)⟩
            · rw [if_neg c5] at H
              exact absurd H (by simp)
          · rw [if_neg c4] at H
            exact absurd H (by simp)
        · rw [if_neg c3] at H
          have c3b0 : decide (x3_1 < 3) = false := decide_eq_false c3
          clear c3
          obtain rfl := Option.some.inj H
          go_wp2
          go_ret
          exact ⟨by first | rfl | (simp; done) | (simp [*]; done), by repeat (first | exact Drawn0.refl _ | apply Drawn0.step)⟩
  · rw [if_neg c2] at H
    have c2b0 : ((l0.length : Int) == 3) = false := beq_eq_false_iff_ne.mpr c2
    have c2b1 : ((l0.length : Int) != 3) = true := bne_iff_ne.mpr c2
    obtain rfl := Option.some.inj H
    go_enter Try.func116, Try.ntmps116
    go_wp2
    go_ret
    exact ⟨by first | rfl | (simp; done) | (simp [*]; done), by repeat (first | exact Drawn0.refl _ | apply Drawn0.step)⟩

theorem spec_between (x lo hi : Int) : spec_l01Between.f x lo hi = some (decide (lo ≤ x) && decide (x ≤ hi)) := by
  unfold spec_l01Between.f
  by_cases h1 : x ≥ lo
  · rw [if_pos h1]; simp [ge_iff_le.mp h1]
  · rw [if_neg h1]; have : ¬ lo ≤ x := h1; simp [this]
theorem spec_l21Px.ev (l : List Int) : Ev (fun k => spec_l21Px.f k l) (isPx l) := by
  unfold isPx allW
  unfold spec_l21Px.f
  by_cases hl : l.length = 3
  · refine Ev.ip (by omega) ?_
    match l, hl with
    | [a, b, c], _ =>
      have r0 : rd [a, b, c] 0 = a := rfl
      have r1 : rd [a, b, c] 1 = b := rfl
      have r2 : rd [a, b, c] 2 = c := rfl
      have w0 : wrap64 (0 + 1) = 1 := by unfold wrap64; omega
      have w1 : wrap64 (1 + 1) = 2 := by unfold wrap64; omega
      have w2 : wrap64 (2 + 1) = 3 := by unfold wrap64; omega
      refine Ev.step (fun _ => by rw [spec_l21Px.l0]) (Ev.ip (by omega) (Ev.ip (by omega) (Ev.ip (by simp) ?_)))
      rw [r0, w0]
      refine Ev.bind (Ev.c (spec_between _ _ _)) ?_
      by_cases ha : (decide (0 ≤ a) && decide (a ≤ 255)) = true
      · refine Ev.ip ha (Ev.step (fun _ => by rw [spec_l21Px.l0]) (Ev.ip (by omega) (Ev.ip (by omega) (Ev.ip (by simp) ?_))))
        rw [r1, w1]
        refine Ev.bind (Ev.c (spec_between _ _ _)) ?_
        by_cases hb : (decide (0 ≤ b) && decide (b ≤ 255)) = true
        · refine Ev.ip hb (Ev.step (fun _ => by rw [spec_l21Px.l0]) (Ev.ip (by omega) (Ev.ip (by omega) (Ev.ip (by simp) ?_))))
          rw [r2, w2]
          refine Ev.bind (Ev.c (spec_between _ _ _)) ?_
          by_cases hc : (decide (0 ≤ c) && decide (c ≤ 255)) = true
          · refine Ev.ip hc (Ev.step (fun _ => by rw [spec_l21Px.l0]) (Ev.ng (by omega) (Ev.eq (Ev.now _) ?_)))
            simp only [List.all_cons, List.all_nil, ha, hb, hc]; rfl
          · refine Ev.ng hc (Ev.eq (Ev.now _) ?_)
            simp only [List.all_cons, List.all_nil, ha, hb, Bool.eq_false_iff.2 hc]; rfl
        · refine Ev.ng hb (Ev.eq (Ev.now _) ?_)
          simp only [List.all_cons, List.all_nil, ha, Bool.eq_false_iff.2 hb]; rfl
      · refine Ev.ng ha (Ev.eq (Ev.now _) ?_)
        simp only [List.all_cons, List.all_nil, Bool.eq_false_iff.2 ha]; rfl
  · exact Ev.ng (by omega) (Ev.eq (Ev.now _) (by simp [hl]))

end Go.Proofs.Ytcjjmfpkhhdmlaa.G

namespace Go.Proofs.Ytcjjmfpkhhdmlaa.G
open Go.RowKit Go.Proofs.YtcjjmfpkhhdmlaaW.PrintWords Go.Proofs.YtcjjmfpkhhdmlaaW.PrintLast Go.Proofs.YtcjjmfpkhhdmlaaW.PrintMore
attribute [local go_sem] max2_int min2_int max_two min_two max_three min_three max_four min_four   -- for this text's walks alone
set_option linter.unusedVariables false
set_option linter.unusedSimpArgs false

/-! ### spec_PixelsOk: function 57 -/
def spec_PixelsOk.l0 : Nat → List (List Int) → Int → Option (Bool)
  | 0, _, _ => none
  | k + 1, x0, x3 => if x3 < (x0.length : Int) then (if 0 ≤ x3 then ((spec_l21Px.f k (rd_L3 x0 x3)).bind fun t392 => (if t392 = true then (spec_PixelsOk.l0 k x0 (wrap64 (x3 + 1))) else (some false))) else (none)) else (some true)
def spec_PixelsOk.f (k : Nat) (l0 : List (List Int)) : Option (Bool) := if (l0.length : Int) > 4096 then (some false) else (spec_PixelsOk.l0 k l0 0)
theorem spec_PixelsOk.mono_l : ∀ k, (∀ y0 y1, LeO (spec_PixelsOk.l0 k y0 y1) (spec_PixelsOk.l0 (k + 1) y0 y1))
  | 0 => fun _ _ r h => by simp [spec_PixelsOk.l0] at h
  | k + 1 => by
    have ih0 := spec_PixelsOk.mono_l k
    · intro y0 y1
      unfold spec_PixelsOk.l0
      repeat' first
      | (with_reducible exact ih0 _ _)
      | (with_reducible exact spec_l21Px.mono _ _)
      | (with_reducible exact LeO.refl _)
      | (with_reducible exact LeO.none _)
      | (with_reducible refine LeO.ite ?_ ?_)
      | (with_reducible refine LeO.bind ?_ (fun _ => ?_))
      | exact ih0 _ _
      | exact spec_l21Px.mono _ _
      | exact LeO.none _
      | refine LeO.ite ?_ ?_
      | refine LeO.bind ?_ (fun _ => ?_)
theorem spec_PixelsOk.mono : ∀ a0 k, LeO (spec_PixelsOk.f k a0) (spec_PixelsOk.f (k + 1) a0) := by
  intro a0 k
  have ih0 := spec_PixelsOk.mono_l k
  unfold spec_PixelsOk.f
  repeat' first
      | (with_reducible exact ih0 _ _)
      | (with_reducible exact spec_l21Px.mono _ _)
      | (with_reducible exact LeO.refl _)
      | (with_reducible exact LeO.none _)
      | (with_reducible refine LeO.ite ?_ ?_)
      | (with_reducible refine LeO.bind ?_ (fun _ => ?_))
      | exact ih0 _ _
      | exact spec_l21Px.mono _ _
      | exact LeO.none _
      | refine LeO.ite ?_ ?_
      | refine LeO.bind ?_ (fun _ => ?_)
set_option maxHeartbeats 8000000 in
set_option maxRecDepth 100000 in
theorem spec_PixelsOk.calls (k : Nat) (A0 : Option Addr) (c0 : Nat) (l0 : List (List Int)) (r : Bool) (w : World) (hr0 : Kd.C (Kd.slice 3 (Kd.int .i64)) w A0 l0.length l0) (hc0 : l0.length ≤ c0) (h : spec_PixelsOk.f k l0 = some r) :
    Calls Try.prog 57 #[.slice A0 l0.length c0] w fun e w' => e = .returned (.bool r) ∧ Drawn0 w w' := by
  have HR0 := Aside0.mk hr0
  have HC0 := Aside0.mk hc0
  clear hr0 hc0
  have H : (if (l0.length : Int) > 4096 then (some false) else (spec_PixelsOk.l0 k l0 0)) = some r := h
  clear h
  by_cases c2 : (l0.length : Int) > 4096
  · rw [if_pos c2] at H
    have c2b0 : decide (4096 < (l0.length : Int)) = true := decide_eq_true c2
    have c2b1 : decide (4096 < l0.length) = true := decide_eq_true (by omega)
    clear c2
    obtain rfl := Option.some.inj H
    go_enter Try.func57, Try.ntmps57
    go_wp2
    go_ret
    exact ⟨by first | rfl | (simp; done) | (simp [*]; done), by repeat (first | exact Drawn0.refl _ | apply Drawn0.step)⟩
  · rw [if_neg c2] at H
    have c2b0 : decide (4096 < (l0.length : Int)) = false := decide_eq_false c2
    have c2b1 : decide (4096 < l0.length) = false := decide_eq_false (by omega)
    clear c2
    have H' := Aside0.mk H
    clear H
    go_enter Try.func57, Try.ntmps57
    go_wp2
    go_loopg [3] k (fun kq v3 w' => ∃ (x3_1 : Int), v3 = .int .i64 x3_1 ∧ Aside0 (spec_PixelsOk.l0 kq l0 x3_1 = some r) ∧ Aside0 (kq ≤ k) ∧ Drawn0 w w')
    case atStart => exact ⟨(0), (by first | rfl | (simp; done) | (simp [*]; done)), H', ⟨Nat.le_refl _⟩, by repeat (first | exact Drawn0.refl _ | apply Drawn0.step)⟩
    case round =>
      clear H'
      try clear c2
      try clear c2b0
      try clear c2b1
      try clear p2
      obtain ⟨x3_1, rfl, HA, HK1, ⟨m1, rfl⟩⟩ := hrel
      cases gk with
      | zero => exact absurd HA.out (by simp [spec_PixelsOk.l0])
      | succ k1 =>
        have H := HA.out
        clear HA
        simp only [spec_PixelsOk.l0] at H
        by_cases c3 : x3_1 < (l0.length : Int)
        · rw [if_pos c3] at H
          have c3b0 : decide (x3_1 < (l0.length : Int)) = true := decide_eq_true c3
          clear c3
          by_cases c4 : 0 ≤ x3_1
          · rw [if_pos c4] at H
            have c4b0 : decide (0 ≤ x3_1) = true := decide_eq_true c4
            clear c4
            replace H := Option.bind_eq_some_iff.mp H
            obtain ⟨t392, A50, H⟩ := H
            replace H : (if t392 = true then (spec_PixelsOk.l0 k1 l0 (wrap64 (x3_1 + 1))) else (some false)) = some r := H
            have A5 := Aside0.mk A50
            clear A50
            by_cases c6 : t392 = true
            · subst c6
              have H1 : (spec_PixelsOk.l0 k1 l0 (wrap64 (x3_1 + 1))) = some r := by rw [if_pos rfl] at H; exact H
              clear H
              have H := H1
              clear H1
              have H' := Aside0.mk H
              clear H
              have p391 : 0 ≤ (x3_1 : Int) := of_decide_eq_true (by first | (with_reducible assumption) | assumption)
              have q391 : x3_1 < (l0.length : Int) := of_decide_eq_true (by first | (with_reducible assumption) | assumption)
              obtain ⟨ad391, A391_0, c391_0, e391, hx391_0, hl391_0, hi391_0⟩ := at_L3 HR0.out x3_1 p391 q391
              cases e391
              have HR391_0 := Aside0.mk hi391_0
              have HC391_0 := Aside0.mk hl391_0
              clear hi391_0 hl391_0
              replace p391 := eq_true p391
              replace q391 := eq_true q391
              go_wp2_with (first | ((with_reducible refine gate_callee (f := 116) rfl ?_); refine goesL_ (some 17) rfl rfl Try.func116 (by kernel_rfl) rfl #[.slice A391_0 (rd_L3 l0 x3_1).length c391_0] rfl (by (try simp only [List.map_toArray, List.map_cons, List.map_nil]); first | done | rfl | (simp only [List.length_drop, List.length_take]; rfl)) ?_; (with_reducible refine (spec_l21Px.calls k1 _ _ (rd_L3 l0 x3_1) true _ ?side1 ?side2 A5.out).mono ?_); (case side1 => repeat (first | exact HR391_0.out | (with_reducible refine Kd.C_alloc ?_ _) | (with_reducible refine Kd.C_drewN ?_ _) | (with_reducible refine Kd.C_drew ?_))); (case side2 => exact HC391_0.out); rintro e w' ⟨rfl, ⟨nd, rfl⟩⟩; refine ⟨_, rfl, ?_⟩))
              go_roundg k1
              case measure => have := HK1.out; omega
              case rel => exact ⟨(wrap64 (x3_1 + 1)), (by first | rfl | (simp; done) | (simp [*]; done)), H', ⟨by have := HK1.out; omega⟩, by repeat (first | exact Drawn0.refl _ | apply Drawn0.step)⟩
            · replace c6 := Bool.eq_false_iff.mpr c6
              subst c6
              have H1 : (some false) = some r := by rw [if_neg (show ¬ (false = true) by decide)] at H; exact H
              clear H
              have H := H1
              clear H1
              obtain rfl := Option.some.inj H
              have p391 : 0 ≤ (x3_1 : Int) := of_decide_eq_true (by first | (with_reducible assumption) | assumption)
              have q391 : x3_1 < (l0.length : Int) := of_decide_eq_true (by first | (with_reducible assumption) | assumption)
              obtain ⟨ad391, A391_0, c391_0, e391, hx391_0, hl391_0, hi391_0⟩ := at_L3 HR0.out x3_1 p391 q391
              cases e391
              have HR391_0 := Aside0.mk hi391_0
              have HC391_0 := Aside0.mk hl391_0
              clear hi391_0 hl391_0
              replace p391 := eq_true p391
              replace q391 := eq_true q391
              go_wp2_with (first | ((with_reducible refine gate_callee (f := 116) rfl ?_); refine goesL_ (some 17) rfl rfl Try.func116 (by kernel_rfl) rfl #[.slice A391_0 (rd_L3 l0 x3_1).length c391_0] rfl (by (try simp only [List.map_toArray, List.map_cons, List.map_nil]); first | done | rfl | (simp only [List.length_drop, List.length_take]; rfl)) ?_; (with_reducible refine (spec_l21Px.calls k1 _ _ (rd_L3 l0 x3_1) false _ ?side1 ?side2 A5.out).mono ?_); (case side1 => repeat (first | exact HR391_0.out | (with_reducible refine Kd.C_alloc ?_ _) | (with_reducible refine Kd.C_drewN ?_ _) | (with_reducible refine Kd.C_drew ?_))); (case side2 => exact HC391_0.out); rintro e w' ⟨rfl, ⟨nd, rfl⟩⟩; refine ⟨_, rfl, ?_⟩))
              go_ret
              exact ⟨by first | rfl | (simp; done) | (simp [*]; done), by repeat (first | exact Drawn0.refl _ | apply Drawn0.step)⟩
          · rw [if_neg c4] at H
            exact absurd H (by simp)
        · rw [if_neg c3] at H
          have c3b0 : decide (x3_1 < (l0.length : Int)) = false := decide_eq_false c3
          clear c3
          obtain rfl := Option.some.inj H
          go_wp2
          go_ret
          exact ⟨by first | rfl | (simp; done) | (simp [*]; done), by repeat (first | exact Drawn0.refl _ | apply Drawn0.step)⟩

theorem spec_PixelsOk.ev (l : List (List Int)) : Ev (fun k => spec_PixelsOk.f k l) (decide (l.length ≤ 4096) && l.all isPx) := by
  unfold spec_PixelsOk.f
  by_cases hl : l.length ≤ 4096
  · refine Ev.ng (by omega) ?_
    have key : ∀ d i : Nat, l.length - i = d → i ≤ l.length → Ev (fun k => spec_PixelsOk.l0 k l (i : Int)) ((l.drop i).all isPx) := by
      intro d
      induction d with
      | zero =>
        intro i hd hi
        refine Ev.step (fun _ => by rw [spec_PixelsOk.l0]) (Ev.ng (by omega) (Ev.eq (Ev.now _) ?_))
        rw [List.drop_of_length_le (by omega)]; rfl
      | succ d ih =>
        intro i hd hi
        have hlt : i < l.length := by omega
        refine Ev.step (fun _ => by rw [spec_PixelsOk.l0]) (Ev.ip (by omega) (Ev.ip (by omega) ?_))
        rw [show rd_L3 l (i : Int) = l[i] by simp [rd_L3, hlt], wrap_succ i (by omega), List.drop_eq_getElem_cons hlt, List.all_cons]
        refine Ev.bind (spec_l21Px.ev l[i]) ?_
        cases isPx l[i]
        · exact Ev.ng (by simp) (Ev.now _)
        · exact Ev.ip rfl (Ev.eq (ih (i + 1) (by omega) (by omega)) (by simp))
    exact Ev.eq (key _ 0 rfl (by omega)) (by simp [hl])
  · exact Ev.ip (by omega) (Ev.eq (Ev.now _) (by simp [hl]))

end Go.Proofs.Ytcjjmfpkhhdmlaa.G

namespace Go.Proofs.Ytcjjmfpkhhdmlaa.G
open Go.RowKit Go.Proofs.YtcjjmfpkhhdmlaaW.PrintWords Go.Proofs.YtcjjmfpkhhdmlaaW.PrintLast Go.Proofs.YtcjjmfpkhhdmlaaW.PrintMore
attribute [local go_sem] max2_int min2_int max_two min_two max_three min_three max_four min_four   -- for this text's walks alone
set_option linter.unusedVariables false
set_option linter.unusedSimpArgs false

/-! ### spec_l21Colours: function 104 -/
def spec_l21Colours.f (k : Nat) (l0 : List (List Int)) : Option (Bool) := (spec_l01Between.f (l0.length : Int) 1 256).bind fun t393 => (if t393 = true then ((spec_PixelsOk.f k l0).bind fun t394 => (some t394)) else (some false))
theorem spec_l21Colours.mono : ∀ a0 k, LeO (spec_l21Colours.f k a0) (spec_l21Colours.f (k + 1) a0) := by
  intro a0 k
  unfold spec_l21Colours.f
  repeat' first
      | (with_reducible exact spec_PixelsOk.mono _ _)
      | (with_reducible exact LeO.refl _)
      | (with_reducible exact LeO.none _)
      | (with_reducible refine LeO.ite ?_ ?_)
      | (with_reducible refine LeO.bind ?_ (fun _ => ?_))
      | exact spec_PixelsOk.mono _ _
      | exact LeO.none _
      | refine LeO.ite ?_ ?_
      | refine LeO.bind ?_ (fun _ => ?_)
set_option maxHeartbeats 8000000 in
set_option maxRecDepth 100000 in
theorem spec_l21Colours.calls (k : Nat) (A0 : Option Addr) (c0 : Nat) (l0 : List (List Int)) (r : Bool) (w : World) (hr0 : Kd.C (Kd.slice 3 (Kd.int .i64)) w A0 l0.length l0) (hc0 : l0.length ≤ c0) (h : spec_l21Colours.f k l0 = some r) :
    Calls Try.prog 104 #[.slice A0 l0.length c0] w fun e w' => e = .returned (.bool r) ∧ Drawn0 w w' := by
  have HR0 := Aside0.mk hr0
  have HC0 := Aside0.mk hc0
  clear hr0 hc0
  have H : ((spec_l01Between.f (l0.length : Int) 1 256).bind fun t393 => (if t393 = true then ((spec_PixelsOk.f k l0).bind fun t394 => (some t394)) else (some false))) = some r := h
  clear h
  replace H := Option.bind_eq_some_iff.mp H
  obtain ⟨t393, A20, H⟩ := H
  replace H : (if t393 = true then ((spec_PixelsOk.f k l0).bind fun t394 => (some t394)) else (some false)) = some r := H
  have A2 := Aside0.mk A20
  clear A20
  by_cases c3 : t393 = true
  · subst c3
    have H1 : ((spec_PixelsOk.f k l0).bind fun t394 => (some t394)) = some r := by rw [if_pos rfl] at H; exact H
    clear H
    have H := H1
    clear H1
    replace H := Option.bind_eq_some_iff.mp H
    obtain ⟨t394, A40, H⟩ := H
    replace H : (some t394) = some r := H
    have A4 := Aside0.mk A40
    clear A40
    obtain rfl := Option.some.inj H
    go_enter Try.func104, Try.ntmps104
    go_wp2_with (first | ((with_reducible refine gate_callee (f := 78) rfl ?_); refine goesL_ (some 5) rfl rfl Try.func78 (by kernel_rfl) rfl #[.int .i64 (l0.length : Int), .int .i64 1, .int .i64 256] rfl (by (try simp only [List.map_toArray, List.map_cons, List.map_nil]); first | done | rfl | (simp only [List.length_drop, List.length_take]; rfl)) ?_; (with_reducible refine (spec_l01Between.calls (l0.length : Int) 1 256 true _ A2.out).mono ?_); rintro e w' ⟨rfl, ⟨nd, rfl⟩⟩; refine ⟨_, rfl, ?_⟩) | (go_at_call 57; (with_reducible refine (spec_PixelsOk.calls k _ _ l0 t394 _ ?side1 ?side2 A4.out).mono ?_); (case side1 => repeat (first | exact HR0.out | (with_reducible refine Kd.C_alloc ?_ _) | (with_reducible refine Kd.C_drewN ?_ _) | (with_reducible refine Kd.C_drew ?_))); (case side2 => exact HC0.out); rintro e w' ⟨rfl, ⟨nd, rfl⟩⟩))
    go_ret
    exact ⟨by first | rfl | (simp; done) | (simp [*]; done), by repeat (first | exact Drawn0.refl _ | apply Drawn0.step)⟩
  · replace c3 := Bool.eq_false_iff.mpr c3
    subst c3
    have H1 : (some false) = some r := by rw [if_neg (show ¬ (false = true) by decide)] at H; exact H
    clear H
    have H := H1
    clear H1
    obtain rfl := Option.some.inj H
    go_enter Try.func104, Try.ntmps104
    go_wp2_with (first | ((with_reducible refine gate_callee (f := 78) rfl ?_); refine goesL_ (some 5) rfl rfl Try.func78 (by kernel_rfl) rfl #[.int .i64 (l0.length : Int), .int .i64 1, .int .i64 256] rfl (by (try simp only [List.map_toArray, List.map_cons, List.map_nil]); first | done | rfl | (simp only [List.length_drop, List.length_take]; rfl)) ?_; (with_reducible refine (spec_l01Between.calls (l0.length : Int) 1 256 false _ A2.out).mono ?_); rintro e w' ⟨rfl, ⟨nd, rfl⟩⟩; refine ⟨_, rfl, ?_⟩))
    go_ret
    exact ⟨by first | rfl | (simp; done) | (simp [*]; done), by repeat (first | exact Drawn0.refl _ | apply Drawn0.step)⟩

theorem spec_l21Colours.ev (l : List (List Int)) : Ev (fun k => spec_l21Colours.f k l) (isCols l) := by
  unfold spec_l21Colours.f
  refine Ev.bind (Ev.c (spec_between _ _ _)) ?_
  by_cases h : (decide ((1 : Int) ≤ l.length) && decide ((l.length : Int) ≤ 256)) = true
  · refine Ev.ip h (Ev.bind (spec_PixelsOk.ev l) (Ev.eq (Ev.now _) ?_))
    simp only [Bool.and_eq_true, decide_eq_true_eq] at h
    have h1 : 1 ≤ l.length := by omega
    have h2 : l.length ≤ 256 := by omega
    have h3 : l.length ≤ 4096 := by omega
    simp [isCols, h1, h2, h3]
  · refine Ev.ng h (Ev.eq (Ev.now _) ?_)
    symm
    rw [Bool.eq_false_iff]
    intro hc
    have := isCols_len hc
    apply h
    simp only [Bool.and_eq_true, decide_eq_true_eq]
    omega

end Go.Proofs.Ytcjjmfpkhhdmlaa.G

namespace Go.Proofs.Ytcjjmfpkhhdmlaa.G
open Go.RowKit Go.Proofs.YtcjjmfpkhhdmlaaW.PrintWords Go.Proofs.YtcjjmfpkhhdmlaaW.PrintLast Go.Proofs.YtcjjmfpkhhdmlaaW.PrintMore
attribute [local go_sem] max2_int min2_int max_two min_two max_three min_three max_four min_four   -- for this text's walks alone
set_option linter.unusedVariables false
set_option linter.unusedSimpArgs false

/-! ### spec_l05Clip: function 105 -/
def spec_l05Clip.f (a0 : Int) (a1 : Int) (a2 : Int) : Option (Int) := if a0 < a1 then (some a1) else (if a0 > a2 then (some a2) else (some a0))
set_option maxHeartbeats 8000000 in
set_option maxRecDepth 100000 in
theorem spec_l05Clip.calls (a0 : Int) (a1 : Int) (a2 : Int) (r : Int) (w : World) (h : spec_l05Clip.f a0 a1 a2 = some r) :
    Calls Try.prog 105 #[.int .i64 a0, .int .i64 a1, .int .i64 a2] w fun e w' => e = .returned (.int .i64 r) ∧ Drawn0 w w' := by
  have H : (if a0 < a1 then (some a1) else (if a0 > a2 then (some a2) else (some a0))) = some r := h
  clear h
  by_cases c4 : a0 < a1
  · rw [if_pos c4] at H
    have c4b0 : decide (a0 < a1) = true := decide_eq_true c4
    clear c4
    obtain rfl := Option.some.inj H
    go_enter Try.func105, Try.ntmps105
    go_wp2
    go_ret
    exact ⟨by first | rfl | (simp; done) | (simp [*]; done), by repeat (first | exact Drawn0.refl _ | apply Drawn0.step)⟩
  · rw [if_neg c4] at H
    have c4b0 : decide (a0 < a1) = false := decide_eq_false c4
    clear c4
    by_cases c5 : a0 > a2
    · rw [if_pos c5] at H
      have c5b0 : decide (a2 < a0) = true := decide_eq_true c5
      clear c5
      obtain rfl := Option.some.inj H
      go_enter Try.func105, Try.ntmps105
      go_wp2
      go_ret
      exact ⟨by first | rfl | (simp; done) | (simp [*]; done), by repeat (first | exact Drawn0.refl _ | apply Drawn0.step)⟩
    · rw [if_neg c5] at H
      have c5b0 : decide (a2 < a0) = false := decide_eq_false c5
      clear c5
      obtain rfl := Option.some.inj H
      go_enter Try.func105, Try.ntmps105
      go_wp2
      go_ret
      exact ⟨by first | rfl | (simp; done) | (simp [*]; done), by repeat (first | exact Drawn0.refl _ | apply Drawn0.step)⟩

end Go.Proofs.Ytcjjmfpkhhdmlaa.G

namespace Go.Proofs.Ytcjjmfpkhhdmlaa.G
open Go.RowKit Go.Proofs.YtcjjmfpkhhdmlaaW.PrintWords Go.Proofs.YtcjjmfpkhhdmlaaW.PrintLast Go.Proofs.YtcjjmfpkhhdmlaaW.PrintMore
attribute [local go_sem] max2_int min2_int max_two min_two max_three min_three max_four min_four   -- for this text's walks alone
set_option linter.unusedVariables false
set_option linter.unusedSimpArgs false

/-! ### spec_l05Floor: function 151 -/
def spec_l05Floor.f (a0 : Int) (a1 : Int) : Option (Int) := if a0 ≥ 0 then (if a1 = 0 then (none) else (some (wrap64 (Int.tdiv a0 a1)))) else (if a1 = 0 then (none) else (some (wrap64 (-(wrap64 (Int.tdiv (wrap64 ((wrap64 ((wrap64 (-a0)) + a1)) - 1)) a1))))))
set_option maxHeartbeats 8000000 in
set_option maxRecDepth 100000 in
theorem spec_l05Floor.calls (a0 : Int) (a1 : Int) (r : Int) (w : World) (h : spec_l05Floor.f a0 a1 = some r) :
    Calls Try.prog 151 #[.int .i64 a0, .int .i64 a1] w fun e w' => e = .returned (.int .i64 r) ∧ Drawn0 w w' := by
  have H : (if a0 ≥ 0 then (if a1 = 0 then (none) else (some (wrap64 (Int.tdiv a0 a1)))) else (if a1 = 0 then (none) else (some (wrap64 (-(wrap64 (Int.tdiv (wrap64 ((wrap64 ((wrap64 (-a0)) + a1)) - 1)) a1))))))) = some r := h
  clear h
  by_cases c3 : a0 ≥ 0
  · rw [if_pos c3] at H
    have c3b0 : decide (0 ≤ a0) = true := decide_eq_true c3
    clear c3
    by_cases c4 : a1 = 0
    · rw [if_pos c4] at H
      exact absurd H (by simp)
    · rw [if_neg c4] at H
      have c4b0 : (a1 == 0) = false := beq_eq_false_iff_ne.mpr c4
      have c4b1 : (a1 != 0) = true := bne_iff_ne.mpr c4
      obtain rfl := Option.some.inj H
      go_enter Try.func151, Try.ntmps151
      go_wp2
      go_ret
      exact ⟨by first | rfl | (simp; done) | (simp [*]; done), by repeat (first | exact Drawn0.refl _ | apply Drawn0.step)⟩
  · rw [if_neg c3] at H
    have c3b0 : decide (0 ≤ a0) = false := decide_eq_false c3
    clear c3
    by_cases c5 : a1 = 0
    · rw [if_pos c5] at H
      exact absurd H (by simp)
    · rw [if_neg c5] at H
      have c5b0 : (a1 == 0) = false := beq_eq_false_iff_ne.mpr c5
      have c5b1 : (a1 != 0) = true := bne_iff_ne.mpr c5
      obtain rfl := Option.some.inj H
      go_enter Try.func151, Try.ntmps151
      go_wp2
      go_ret
      exact ⟨by first | rfl | (simp; done) | (simp [*]; done), by repeat (first | exact Drawn0.refl _ | apply Drawn0.step)⟩

end Go.Proofs.Ytcjjmfpkhhdmlaa.G

namespace Go.Proofs.Ytcjjmfpkhhdmlaa.G
open Go.RowKit Go.Proofs.YtcjjmfpkhhdmlaaW.PrintWords Go.Proofs.YtcjjmfpkhhdmlaaW.PrintLast Go.Proofs.YtcjjmfpkhhdmlaaW.PrintMore
attribute [local go_sem] max2_int min2_int max_two min_two max_three min_three max_four min_four   -- for this text's walks alone
set_option linter.unusedVariables false
set_option linter.unusedSimpArgs false

/-! ### spec_l05Round: function 106 -/
def spec_l05Round.f (a0 : Int) (a1 : Int) : Option (Int) := (spec_l05Floor.f (wrap64 ((wrap64 (2 * a0)) + a1)) (wrap64 (2 * a1))).bind fun t395 => (some t395)
set_option maxHeartbeats 8000000 in
set_option maxRecDepth 100000 in
theorem spec_l05Round.calls (a0 : Int) (a1 : Int) (r : Int) (w : World) (h : spec_l05Round.f a0 a1 = some r) :
    Calls Try.prog 106 #[.int .i64 a0, .int .i64 a1] w fun e w' => e = .returned (.int .i64 r) ∧ Drawn0 w w' := by
  have H : ((spec_l05Floor.f (wrap64 ((wrap64 (2 * a0)) + a1)) (wrap64 (2 * a1))).bind fun t395 => (some t395)) = some r := h
  clear h
  replace H := Option.bind_eq_some_iff.mp H
  obtain ⟨t395, A30, H⟩ := H
  replace H : (some t395) = some r := H
  have A3 := Aside0.mk A30
  clear A30
  obtain rfl := Option.some.inj H
  go_enter Try.func106, Try.ntmps106
  go_wp2_with (first | ((with_reducible refine gate_callee (f := 151) rfl ?_); refine goesL_ (some 11) rfl rfl Try.func151 (by kernel_rfl) rfl #[.int .i64 (wrap64 ((wrap64 (2 * a0)) + a1)), .int .i64 (wrap64 (2 * a1))] rfl (by (try simp only [List.map_toArray, List.map_cons, List.map_nil]); first | done | rfl | (simp only [List.length_drop, List.length_take]; rfl)) ?_; (with_reducible refine (spec_l05Floor.calls (wrap64 ((wrap64 (2 * a0)) + a1)) (wrap64 (2 * a1)) t395 _ A3.out).mono ?_); rintro e w' ⟨rfl, ⟨nd, rfl⟩⟩; refine ⟨_, rfl, ?_⟩))
  go_ret
  exact ⟨by first | rfl | (simp; done) | (simp [*]; done), by repeat (first | exact Drawn0.refl _ | apply Drawn0.step)⟩

end Go.Proofs.Ytcjjmfpkhhdmlaa.G

namespace Go.Proofs.Ytcjjmfpkhhdmlaa.G
open Go.RowKit Go.Proofs.YtcjjmfpkhhdmlaaW.PrintWords Go.Proofs.YtcjjmfpkhhdmlaaW.PrintLast Go.Proofs.YtcjjmfpkhhdmlaaW.PrintMore
attribute [local go_sem] max2_int min2_int max_two min_two max_three min_three max_four min_four   -- for this text's walks alone
set_option linter.unusedVariables false
set_option linter.unusedSimpArgs false

/-! ### spec_l21Near: function 107 -/
mutual
def spec_l21Near.l0 : Nat → List (List Int) → List Int → Int → Int → Int → Option (Int)
  | 0, _, _, _, _, _ => none
  | k + 1, x0, x1, x5, x6, x7 => if x7 < (x0.length : Int) then (spec_l21Near.l1 k x0 x1 x5 x6 x7 0 0) else (some x5)
def spec_l21Near.l1 : Nat → List (List Int) → List Int → Int → Int → Int → Int → Int → Option (Int)
  | 0, _, _, _, _, _, _, _ => none
  | k + 1, x0, x1, x5, x6, x7, x8, x9 => if x9 < 3 then (if 0 ≤ x7 then (if x7 < (x0.length : Int) then (if 0 ≤ x9 then (if x9 < ((rd_L3 x0 x7).length : Int) then (if x9 < (x1.length : Int) then (spec_l21Near.l1 k x0 x1 x5 x6 x7 (wrap64 (x8 + (wrap64 ((wrap64 ((rd (rd_L3 x0 x7) x9) - (rd x1 x9))) * (wrap64 ((rd (rd_L3 x0 x7) x9) - (rd x1 x9))))))) (wrap64 (x9 + 1))) else (none)) else (none)) else (none)) else (none)) else (none)) else (if x6 < 0 then (spec_l21Near.l0 k x0 x1 x7 x8 (wrap64 (x7 + 1))) else (if x8 < x6 then (spec_l21Near.l0 k x0 x1 x7 x8 (wrap64 (x7 + 1))) else (spec_l21Near.l0 k x0 x1 x5 x6 (wrap64 (x7 + 1)))))
end
def spec_l21Near.f (k : Nat) (l0 : List (List Int)) (l1 : List Int) : Option (Int) := spec_l21Near.l0 k l0 l1 0 (-1) 0
theorem spec_l21Near.mono_l : ∀ k, (∀ y0 y1 y2 y3 y4, LeO (spec_l21Near.l0 k y0 y1 y2 y3 y4) (spec_l21Near.l0 (k + 1) y0 y1 y2 y3 y4)) ∧ (∀ y0 y1 y2 y3 y4 y5 y6, LeO (spec_l21Near.l1 k y0 y1 y2 y3 y4 y5 y6) (spec_l21Near.l1 (k + 1) y0 y1 y2 y3 y4 y5 y6))
  | 0 => ⟨fun _ _ _ _ _ r h => by simp [spec_l21Near.l0] at h, fun _ _ _ _ _ _ _ r h => by simp [spec_l21Near.l1] at h⟩
  | k + 1 => by
    obtain ⟨ih0, ih1⟩ := spec_l21Near.mono_l k
    refine ⟨?_, ?_⟩
    · intro y0 y1 y2 y3 y4
      unfold spec_l21Near.l0
      repeat' first
      | (with_reducible exact ih0 _ _ _ _ _)
      | (with_reducible exact ih1 _ _ _ _ _ _ _)
      | (with_reducible exact LeO.refl _)
      | (with_reducible exact LeO.none _)
      | (with_reducible refine LeO.ite ?_ ?_)
      | (with_reducible refine LeO.bind ?_ (fun _ => ?_))
      | exact ih0 _ _ _ _ _
      | exact ih1 _ _ _ _ _ _ _
      | exact LeO.none _
      | refine LeO.ite ?_ ?_
      | refine LeO.bind ?_ (fun _ => ?_)
    · intro y0 y1 y2 y3 y4 y5 y6
      unfold spec_l21Near.l1
      repeat' first
      | (with_reducible exact ih0 _ _ _ _ _)
      | (with_reducible exact ih1 _ _ _ _ _ _ _)
      | (with_reducible exact LeO.refl _)
      | (with_reducible exact LeO.none _)
      | (with_reducible refine LeO.ite ?_ ?_)
      | (with_reducible refine LeO.bind ?_ (fun _ => ?_))
      | exact ih0 _ _ _ _ _
      | exact ih1 _ _ _ _ _ _ _
      | exact LeO.none _
      | refine LeO.ite ?_ ?_
      | refine LeO.bind ?_ (fun _ => ?_)
theorem spec_l21Near.mono : ∀ a0 a1 k, LeO (spec_l21Near.f k a0 a1) (spec_l21Near.f (k + 1) a0 a1) := by
  intro a0 a1 k
  obtain ⟨ih0, ih1⟩ := spec_l21Near.mono_l k
  unfold spec_l21Near.f
  repeat' first
      | (with_reducible exact ih0 _ _ _ _ _)
      | (with_reducible exact ih1 _ _ _ _ _ _ _)
      | (with_reducible exact LeO.refl _)
      | (with_reducible exact LeO.none _)
      | (with_reducible refine LeO.ite ?_ ?_)
      | (with_reducible refine LeO.bind ?_ (fun _ => ?_))
      | exact ih0 _ _ _ _ _
      | exact ih1 _ _ _ _ _ _ _
      | exact LeO.none _
      | refine LeO.ite ?_ ?_
      | refine LeO.bind ?_ (fun _ => ?_)
set_option maxHeartbeats 8000000 in
set_option maxRecDepth 100000 in
theorem spec_l21Near.calls (k : Nat) (A0 : Option Addr) (c0 : Nat) (l0 : List (List Int)) (A1 : Option Addr) (c1 : Nat) (l1 : List Int) (r : Int) (w : World) (hr0 : Kd.C (Kd.slice 3 (Kd.int .i64)) w A0 l0.length l0) (hc0 : l0.length ≤ c0) (hr1 : Kd.C (Kd.int .i64) w A1 l1.length l1) (hc1 : l1.length ≤ c1) (h : spec_l21Near.f k l0 l1 = some r) :
    Calls Try.prog 107 #[.slice A0 l0.length c0, .slice A1 l1.length c1] w fun e w' => e = .returned (.int .i64 r) ∧ Drawn0 w w' := by
  have HR0 := Aside0.mk hr0
  have HC0 := Aside0.mk hc0
  clear hr0 hc0
  have HR1 := Aside0.mk hr1
  have HC1 := Aside0.mk hc1
  clear hr1 hc1
  have H : (spec_l21Near.l0 k l0 l1 0 (-1) 0) = some r := h
  clear h
  have H' := Aside0.mk H
  clear H
  go_enter Try.func107, Try.ntmps107
  go_wp2
  repeat (go_quiet (fail); try go_wp2)
  go_loopg [5, 6, 7] k (fun kq v5 v6 v7 w' => ∃ (x5_1 : Int) (x6_1 : Int) (x7_1 : Int), v5 = .int .i64 x5_1 ∧ v6 = .int .i64 x6_1 ∧ v7 = .int .i64 x7_1 ∧ Aside0 (spec_l21Near.l0 kq l0 l1 x5_1 x6_1 x7_1 = some r) ∧ Aside0 (kq ≤ k) ∧ Drawn0 w w')
  case atStart => exact ⟨(0), ((-1)), (0), (by first | rfl | (simp; done) | (simp [*]; done)), (by first | rfl | (simp; done) | (simp [*]; done)), (by first | rfl | (simp; done) | (simp [*]; done)), H', ⟨Nat.le_refl _⟩, by repeat (first | exact Drawn0.refl _ | apply Drawn0.step)⟩
  case round =>
    clear H'
    try clear c1
    try clear p2
    obtain ⟨x5_1, x6_1, x7_1, rfl, rfl, rfl, HA, HK1, ⟨m1, rfl⟩⟩ := hrel
    cases gk with
    | zero => exact absurd HA.out (by simp [spec_l21Near.l0])
    | succ k1 =>
      have H := HA.out
      clear HA
      simp only [spec_l21Near.l0] at H
      by_cases c3 : x7_1 < (l0.length : Int)
      · rw [if_pos c3] at H
        have c3b0 : decide (x7_1 < (l0.length : Int)) = true := decide_eq_true c3
        clear c3
        have H' := Aside0.mk H
        clear H
        go_wp2
        repeat (go_quiet (fail); try go_wp2)
        go_loopg [8, 9] k1 (fun kq v8 v9 w' => ∃ (x8_2 : Int) (x9_2 : Int), v8 = .int .i64 x8_2 ∧ v9 = .int .i64 x9_2 ∧ Aside0 (spec_l21Near.l1 kq l0 l1 x5_1 x6_1 x7_1 x8_2 x9_2 = some r) ∧ Aside0 (kq ≤ k1) ∧ Drawn0 w w')
        case atStart => exact ⟨(0), (0), (by first | rfl | (simp; done) | (simp [*]; done)), (by first | rfl | (simp; done) | (simp [*]; done)), H', ⟨Nat.le_refl _⟩, by repeat (first | exact Drawn0.refl _ | apply Drawn0.step)⟩
        case round =>
          clear H'
          try clear c1
          try clear p2
          try clear c3
          try clear c3b0
          try clear p2
          obtain ⟨x8_2, x9_2, rfl, rfl, HA, HK2, ⟨m2, rfl⟩⟩ := hrel
          cases gk with
          | zero => exact absurd HA.out (by simp [spec_l21Near.l1])
          | succ k2 =>
            have H := HA.out
            clear HA
            simp only [spec_l21Near.l1] at H
            by_cases c4 : x9_2 < 3
            · rw [if_pos c4] at H
              have c4b0 : decide (x9_2 < 3) = true := decide_eq_true c4
              clear c4
              by_cases c5 : 0 ≤ x7_1
              · rw [if_pos c5] at H
                have c5b0 : decide (0 ≤ x7_1) = true := decide_eq_true c5
                clear c5
                by_cases c6 : x7_1 < (l0.length : Int)
                · rw [if_pos c6] at H
                  have c6b0 : decide (x7_1 < (l0.length : Int)) = true := decide_eq_true c6
                  clear c6
                  by_cases c7 : 0 ≤ x9_2
                  · rw [if_pos c7] at H
                    have c7b0 : decide (0 ≤ x9_2) = true := decide_eq_true c7
                    clear c7
                    by_cases c8 : x9_2 < ((rd_L3 l0 x7_1).length : Int)
                    · rw [if_pos c8] at H
                      have c8b0 : decide (x9_2 < ((rd_L3 l0 x7_1).length : Int)) = true := decide_eq_true c8
                      clear c8
                      by_cases c9 : x9_2 < (l1.length : Int)
                      · rw [if_pos c9] at H
                        have c9b0 : decide (x9_2 < (l1.length : Int)) = true := decide_eq_true c9
                        clear c9
                        have H' := Aside0.mk H
                        clear H
                        have p396 : 0 ≤ (x7_1 : Int) := of_decide_eq_true (by first | (with_reducible assumption) | assumption)
                        have q396 : x7_1 < (l0.length : Int) := of_decide_eq_true (by first | (with_reducible assumption) | assumption)
                        obtain ⟨ad396, A396_0, c396_0, e396, hx396_0, hl396_0, hi396_0⟩ := at_L3 HR0.out x7_1 p396 q396
                        cases e396
                        have HR396_0 := Aside0.mk hi396_0
                        have HC396_0 := Aside0.mk hl396_0
                        clear hi396_0 hl396_0
                        replace p396 := eq_true p396
                        replace q396 := eq_true q396
                        have p397 : 0 ≤ (x9_2 : Int) := of_decide_eq_true (by first | (with_reducible assumption) | assumption)
                        have q397 : x9_2 < ((rd_L3 l0 x7_1).length : Int) := of_decide_eq_true (by first | (with_reducible assumption) | assumption)
                        obtain ⟨ad397, e397, hx397_0⟩ := Kd.at_int HR396_0.out x9_2 p397 q397
                        cases e397
                        replace p397 := eq_true p397
                        replace q397 := eq_true q397
                        have p398 : 0 ≤ (x9_2 : Int) := of_decide_eq_true (by first | (with_reducible assumption) | assumption)
                        have q398 : x9_2 < (l1.length : Int) := of_decide_eq_true (by first | (with_reducible assumption) | assumption)
                        obtain ⟨ad398, e398, hx398_0⟩ := Kd.at_int HR1.out x9_2 p398 q398
                        cases e398
                        replace p398 := eq_true p398
                        replace q398 := eq_true q398
                        have p399 : 0 ≤ (x7_1 : Int) := of_decide_eq_true (by first | (with_reducible assumption) | assumption)
                        have q399 : x7_1 < (l0.length : Int) := of_decide_eq_true (by first | (with_reducible assumption) | assumption)
                        obtain ⟨ad399, A399_0, c399_0, e399, hx399_0, hl399_0, hi399_0⟩ := at_L3 HR0.out x7_1 p399 q399
                        obtain rfl : ad396 = ad399 := (by injection e399)
                        have HR399_0 := Aside0.mk hi399_0
                        have HC399_0 := Aside0.mk hl399_0
                        clear hi399_0 hl399_0
                        replace p399 := eq_true p399
                        replace q399 := eq_true q399
                        have ea_ := Option.some.inj (hx396_0.symm.trans hx399_0)
                        injection ea_ with ea_ en_ ec_
                        subst ea_
                        subst ec_
                        clear en_
                        have p400 : 0 ≤ (x9_2 : Int) := of_decide_eq_true (by first | (with_reducible assumption) | assumption)
                        have q400 : x9_2 < ((rd_L3 l0 x7_1).length : Int) := of_decide_eq_true (by first | (with_reducible assumption) | assumption)
                        obtain ⟨ad400, e400, hx400_0⟩ := Kd.at_int HR399_0.out x9_2 p400 q400
                        cases e400
                        replace p400 := eq_true p400
                        replace q400 := eq_true q400
                        have p401 : 0 ≤ (x9_2 : Int) := of_decide_eq_true (by first | (with_reducible assumption) | assumption)
                        have q401 : x9_2 < (l1.length : Int) := of_decide_eq_true (by first | (with_reducible assumption) | assumption)
                        obtain ⟨ad401, e401, hx401_0⟩ := Kd.at_int HR1.out x9_2 p401 q401
                        obtain rfl : ad398 = ad401 := (by injection e401)
                        replace p401 := eq_true p401
                        replace q401 := eq_true q401
                        go_wp2
                        repeat (go_quiet (fail); try go_wp2)
                        go_roundg k2
                        case measure => have := HK1.out; have := HK2.out; omega
                        case rel => exact ⟨(wrap64 (x8_2 + (wrap64 ((wrap64 ((rd (rd_L3 l0 x7_1) x9_2) - (rd l1 x9_2))) * (wrap64 ((rd (rd_L3 l0 x7_1) x9_2) - (rd l1 x9_2))))))), (wrap64 (x9_2 + 1)), (by first | rfl | (simp; done) | (simp [*]; done)), (by first | rfl | (simp; done) | (simp [*]; done)), H', ⟨by have := HK1.out; have := HK2.out; omega⟩, by repeat (first | exact Drawn0.refl _ | apply Drawn0.step)⟩
                      · rw [if_neg c9] at H
                        exact absurd H (by simp)
                    · rw [if_neg c8] at H
                      exact absurd H (by simp)
                  · rw [if_neg c7] at H
                    exact absurd H (by simp)
                · rw [if_neg c6] at H
                  exact absurd H (by simp)
              · rw [if_neg c5] at H
                exact absurd H (by simp)
            · rw [if_neg c4] at H
              have c4b0 : decide (x9_2 < 3) = false := decide_eq_false c4
              clear c4
              by_cases c10 : x6_1 < 0
              · rw [if_pos c10] at H
                have c10b0 : decide (x6_1 < 0) = true := decide_eq_true c10
                clear c10
                have H' := Aside0.mk H
                clear H
                go_wp2
                repeat (go_quiet (fail); try go_wp2)
                go_roundg k2
                case measure => have := HK1.out; have := HK2.out; omega
                case rel => exact ⟨(x7_1), (x8_2), (wrap64 (x7_1 + 1)), (by first | rfl | (simp; done) | (simp [*]; done)), (by first | rfl | (simp; done) | (simp [*]; done)), (by first | rfl | (simp; done) | (simp [*]; done)), H', ⟨by have := HK1.out; have := HK2.out; omega⟩, by repeat (first | exact Drawn0.refl _ | apply Drawn0.step)⟩
              · rw [if_neg c10] at H
                have c10b0 : decide (x6_1 < 0) = false := decide_eq_false c10
                clear c10
                by_cases c11 : x8_2 < x6_1
                · rw [if_pos c11] at H
                  have c11b0 : decide (x8_2 < x6_1) = true := decide_eq_true c11
                  clear c11
                  have H' := Aside0.mk H
                  clear H
                  go_wp2
                  repeat (go_quiet (fail); try go_wp2)
                  go_roundg k2
                  case measure => have := HK1.out; have := HK2.out; omega
                  case rel => exact ⟨(x7_1), (x8_2), (wrap64 (x7_1 + 1)), (by first | rfl | (simp; done) | (simp [*]; done)), (by first | rfl | (simp; done) | (simp [*]; done)), (by first | rfl | (simp; done) | (simp [*]; done)), H', ⟨by have := HK1.out; have := HK2.out; omega⟩, by repeat (first | exact Drawn0.refl _ | apply Drawn0.step)⟩
                · rw [if_neg c11] at H
                  have c11b0 : decide (x8_2 < x6_1) = false := decide_eq_false c11
                  clear c11
                  have H' := Aside0.mk H
                  clear H
                  go_wp2
                  repeat (go_quiet (fail); try go_wp2)
                  go_roundg k2
                  case measure => have := HK1.out; have := HK2.out; omega
                  case rel => exact ⟨(x5_1), (x6_1), (wrap64 (x7_1 + 1)), (by first | rfl | (simp; done) | (simp [*]; done)), (by first | rfl | (simp; done) | (simp [*]; done)), (by first | rfl | (simp; done) | (simp [*]; done)), H', ⟨by have := HK1.out; have := HK2.out; omega⟩, by repeat (first | exact Drawn0.refl _ | apply Drawn0.step)⟩
      · rw [if_neg c3] at H
        have c3b0 : decide (x7_1 < (l0.length : Int)) = false := decide_eq_false c3
        clear c3
        obtain rfl := Option.some.inj H
        go_wp2
        repeat (go_quiet (fail); try go_wp2)
        go_ret
        exact ⟨by first | rfl | (simp; done) | (simp [*]; done), by repeat (first | exact Drawn0.refl _ | apply Drawn0.step)⟩

theorem spec_l21Near.inner (px c : List Int) (l : List (List Int)) (hp : isPx px = true) (hc : isPx c = true) (i : Nat) (hi : i < l.length) (hci : l[i] = c) (hi2 : l.length ≤ 4096) (best least : Int) (r : Int)
    (h : Ev (fun k => spec_l21Near.l0 k l px (if least < 0 ∨ dist c px < least then (i : Int) else best) (if least < 0 ∨ dist c px < least then dist c px else least) ((i + 1 : Nat) : Int)) r) :
    Ev (fun k => spec_l21Near.l1 k l px best least (i : Int) 0 0) r := by
  obtain ⟨a, b, c', rfl, ha, ha', hb, hb', hc1, hc1'⟩ := isPx_three hc
  obtain ⟨p, q, s, rfl, hp1, hp1', hq, hq', hs, hs'⟩ := isPx_three hp
  have el : rd_L3 l (i : Int) = [a, b, c'] := by rw [← hci]; simp [rd_L3, hi]
  have e0 : rd [a, b, c'] 0 = a := rfl
  have e1 : rd [a, b, c'] 1 = b := rfl
  have e2 : rd [a, b, c'] 2 = c' := rfl
  have f0 : rd [p, q, s] 0 = p := rfl
  have f1 : rd [p, q, s] 1 = q := rfl
  have f2 : rd [p, q, s] 2 = s := rfl
  have b0 := sq_bound (a - p) (by omega) (by omega)
  have b1 := sq_bound (b - q) (by omega) (by omega)
  have ed : dist [a, b, c'] [p, q, s] = (a - p) * (a - p) + (b - q) * (b - q) + (c' - s) * (c' - s) := rfl
  rw [ed] at h
  refine Ev.step (fun _ => by rw [spec_l21Near.l1]) (Ev.ip (by omega) (Ev.ip (by omega) (Ev.ip (by omega) (Ev.ip (by omega) (Ev.ip (by rw [el]; simp) (Ev.ip (by simp) ?_))))))
  rw [el, e0, f0, sq_step 0 a p (by omega) (by omega) ha ha' hp1 hp1', w64_1, Int.zero_add]
  refine Ev.step (fun _ => by rw [spec_l21Near.l1]) (Ev.ip (by omega) (Ev.ip (by omega) (Ev.ip (by omega) (Ev.ip (by omega) (Ev.ip (by rw [el]; simp) (Ev.ip (by simp) ?_))))))
  rw [el, e1, f1, sq_step _ b q (by omega) (by omega) hb hb' hq hq', w64_2]
  refine Ev.step (fun _ => by rw [spec_l21Near.l1]) (Ev.ip (by omega) (Ev.ip (by omega) (Ev.ip (by omega) (Ev.ip (by omega) (Ev.ip (by rw [el]; simp) (Ev.ip (by simp) ?_))))))
  rw [el, e2, f2, sq_step _ c' s (by omega) (by omega) hc1 hc1' hs hs', w64_3]
  refine Ev.step (fun _ => by rw [spec_l21Near.l1]) (Ev.ng (by omega) ?_)
  rw [wrap_succ i (by omega)]
  by_cases h1 : least < 0
  · rw [if_pos (.inl h1), if_pos (.inl h1)] at h
    exact Ev.ip h1 h
  · refine Ev.ng h1 ?_
    by_cases h2 : (a - p) * (a - p) + (b - q) * (b - q) + (c' - s) * (c' - s) < least
    · rw [if_pos (.inr h2), if_pos (.inr h2)] at h
      exact Ev.ip h2 h
    · rw [if_neg (by omega), if_neg (by omega)] at h
      exact Ev.ng h2 h
theorem spec_l21Near.ev (l : List (List Int)) (px : List Int) (hp : isPx px = true) (hl : ∀ c ∈ l, isPx c = true) (hm : l.length ≤ 4096) : Ev (fun k => spec_l21Near.f k l px) (nearGo px l 0 0 (-1)) := by
  unfold spec_l21Near.f
  have key : ∀ d i : Nat, ∀ best least : Int, l.length - i = d → i ≤ l.length → Ev (fun k => spec_l21Near.l0 k l px best least (i : Int)) (nearGo px (l.drop i) i best least) := by
    intro d
    induction d with
    | zero =>
      intro i best least hd hi
      refine Ev.step (fun _ => by rw [spec_l21Near.l0]) (Ev.ng (by omega) (Ev.eq (Ev.now _) ?_))
      rw [List.drop_of_length_le (by omega)]; rfl
    | succ d ih =>
      intro i best least hd hi
      have hlt : i < l.length := by omega
      refine Ev.step (fun _ => by rw [spec_l21Near.l0]) (Ev.ip (by omega) ?_)
      rw [List.drop_eq_getElem_cons hlt]
      refine spec_l21Near.inner px l[i] l hp (hl _ (List.getElem_mem _)) i hlt rfl hm best least _ (Ev.eq (ih (i + 1) _ _ (by omega) (by omega)) ?_)
      simp only [nearGo]
      by_cases h : least < 0 ∨ dist l[i] px < least
      · rw [if_pos h, if_pos h, if_pos h]; rfl
      · rw [if_neg h, if_neg h, if_neg h]; rfl
  exact key _ 0 0 (-1) rfl (by omega)

end Go.Proofs.Ytcjjmfpkhhdmlaa.G

namespace Go.Proofs.Ytcjjmfpkhhdmlaa.G
open Go.RowKit Go.Proofs.YtcjjmfpkhhdmlaaW.PrintWords Go.Proofs.YtcjjmfpkhhdmlaaW.PrintLast Go.Proofs.YtcjjmfpkhhdmlaaW.PrintMore
attribute [local go_sem] max2_int min2_int max_two min_two max_three min_three max_four min_four   -- for this text's walks alone
set_option linter.unusedVariables false
set_option linter.unusedSimpArgs false

/-! Dither: the numbers that are handed on, as a function of the place; both programs are walked to it -/
/-- a number more at one place -/
def addAt (H : Nat → Int) (t : Nat) (v : Int) : Nat → Int := fun q => if q = t then H q + v else H q
def addRow (H : Nat → Int) (t : Nat) (k : Int) (d : Nat → Int) : Nat → Int := addAt (addAt (addAt H (3 * t) (k * d 0)) (3 * t + 1) (k * d 1)) (3 * t + 2) (k * d 2)
/-- what a pixel hands on -/
def stepH (H : Nat → Int) (p w n : Nat) (d : Nat → Int) : Nat → Int :=
  let H1 := if p % w + 1 < w ∧ p + 1 < n then addRow H (p + 1) 7 d else H
  let H2 := if 1 ≤ p % w ∧ p + w - 1 < n then addRow H1 (p + w - 1) 3 d else H1
  let H3 := if p + w < n then addRow H2 (p + w) 5 d else H2
  if p % w + 1 < w ∧ p + w + 1 < n then addRow H3 (p + w + 1) 1 d else H3
/-- the same, a number at a time -/
def stepJ (H : Nat → Int) (p w n j : Nat) (d : Int) : Nat → Int :=
  let H1 := if p % w + 1 < w then addAt H (3 * (p + 1) + j) (7 * d) else H
  if n ≤ p + w then H1 else
  let H2 := if 0 < p % w then addAt H1 (3 * (p + w - 1) + j) (3 * d) else H1
  let H3 := addAt H2 (3 * (p + w) + j) (5 * d)
  if p % w + 1 < w then addAt H3 (3 * (p + w + 1) + j) d else H3
theorem addAt_eq (H : Nat → Int) (t : Nat) (v : Int) (q : Nat) : addAt H t v q = H q + if q = t then v else 0 := by
  unfold addAt; split <;> simp
theorem mod_facts (p w n : Nat) (hw : 0 < w) (hn : n % w = 0) (hp : p < n) : (p % w + 1 < w → p + 1 < n) ∧ (n ≤ p + w → 1 ≤ p % w → n ≤ p + w - 1) ∧ (p + w < n → p % w + 1 < w → p + w + 1 < n) := by
  obtain ⟨m, rfl⟩ : ∃ m, n = w * m := ⟨n / w, by have := Nat.div_add_mod n w; omega⟩
  have h1 := Nat.div_add_mod p w
  have h2 := Nat.mod_lt p hw
  obtain ⟨a, ha⟩ : ∃ a, a = p / w := ⟨_, rfl⟩
  obtain ⟨x, hx⟩ : ∃ x, x = p % w := ⟨_, rfl⟩
  rw [← ha, ← hx] at h1
  rw [← hx] at h2 ⊢
  have ham : a < m := by
    rw [ha]; exact Nat.div_lt_of_lt_mul hp
  have e1 : w * a + w ≤ w * m := by rw [← Nat.mul_succ]; exact Nat.mul_le_mul_left w ham
  have e2 : a + 1 < m → w * a + w + w ≤ w * m := fun h => by
    have := Nat.mul_le_mul_left w (show a + 2 ≤ m from h); rw [Nat.mul_add] at this; omega
  have e3 : ¬ a + 1 < m → w * m = w * a + w := fun h => by
    have : m = a + 1 := by omega
    rw [this, Nat.mul_succ]
  by_cases hc : a + 1 < m
  · have := e2 hc
    refine ⟨fun h => by omega, fun h h' => by omega, fun h h' => by omega⟩
  · have := e3 hc
    refine ⟨fun h => by omega, fun h h' => by omega, fun h h' => by omega⟩
theorem step_same (H : Nat → Int) (p w n : Nat) (d : Nat → Int) (hw : 0 < w) (hn : n % w = 0) (hp : p < n) : stepJ (stepJ (stepJ H p w n 0 (d 0)) p w n 1 (d 1)) p w n 2 (d 2) = stepH H p w n d := by
  obtain ⟨f1, f2, f3⟩ := mod_facts p w n hw hn hp
  funext q
  unfold stepJ stepH addRow
  obtain ⟨x, hx⟩ : ∃ x, x = p % w := ⟨_, rfl⟩
  rw [← hx] at f1 f2 f3 ⊢
  clear hx
  by_cases h1 : x + 1 < w
  · have g1 := f1 h1
    by_cases h2 : n ≤ p + w
    · have g4 : ¬ p + w < n := by omega
      have g5 : ¬ p + w + 1 < n := by omega
      by_cases h3 : 1 ≤ x
      · have g3 := f2 h2 h3
        have g6 : ¬ p + w - 1 < n := by omega
        simp only [h1, g1, h2, h3, g4, g5, g6, and_true, and_false, if_true, if_false, addAt_eq]
        simp only [Nat.add_zero, Int.add_assoc]
      · simp only [h1, g1, h2, h3, g4, g5, false_and, and_false, and_true, if_true, if_false, addAt_eq]
        simp only [Nat.add_zero, Int.add_assoc]
    · have g4 : p + w < n := by omega
      have g5 := f3 g4 h1
      by_cases h3 : 1 ≤ x
      · have g6 : p + w - 1 < n := by omega
        have g7 : 0 < x := h3
        simp only [h1, g1, h2, h3, g4, g5, g6, g7, and_true, if_true, if_false, addAt_eq]
        simp only [Nat.add_zero, Int.one_mul]
        ac_rfl
      · have g7 : ¬ 0 < x := h3
        simp only [h1, g1, h2, h3, g4, g5, g7, false_and, and_true, if_true, if_false, addAt_eq]
        simp only [Nat.add_zero, Int.one_mul]
        ac_rfl
  · by_cases h2 : n ≤ p + w
    · have g4 : ¬ p + w < n := by omega
      by_cases h3 : 1 ≤ x
      · have g3 := f2 h2 h3
        have g6 : ¬ p + w - 1 < n := by omega
        simp only [h1, h2, h3, g4, g6, false_and, and_false, if_true, if_false]
      · simp only [h1, h2, h3, g4, false_and, and_false, if_true, if_false]
    · have g4 : p + w < n := by omega
      by_cases h3 : 1 ≤ x
      · have g6 : p + w - 1 < n := by omega
        have g7 : 0 < x := h3
        simp only [h1, h2, h3, g4, g6, g7, false_and, and_true, if_true, if_false, addAt_eq]
        simp only [Nat.add_zero, Int.one_mul]
        ac_rfl
      · have g7 : ¬ 0 < x := h3
        simp only [h1, h2, h3, g4, g7, false_and, if_true, if_false, addAt_eq]
        simp only [Nat.add_zero, Int.one_mul]
/-- no number lies further out -/
def Bnd (H : Nat → Int) (b : Int) : Prop := ∀ q, -b ≤ H q ∧ H q ≤ b
theorem Bnd.add {H : Nat → Int} {b v c : Int} (h : Bnd H b) (t : Nat) (h1 : -c ≤ v) (h2 : v ≤ c) (hc : 0 ≤ c) : Bnd (addAt H t v) (b + c) := by
  intro q
  have := h q
  unfold addAt
  split <;> constructor <;> omega
theorem Bnd.more {H : Nat → Int} {b c : Int} (h : Bnd H b) (hc : b ≤ c) : Bnd H c := fun q => by have := h q; constructor <;> omega
theorem Bnd.row {H : Nat → Int} {b k c : Int} {d : Nat → Int} (h : Bnd H b) (t : Nat) (hd : ∀ j, -c ≤ k * d j ∧ k * d j ≤ c) (hc : 0 ≤ c) : Bnd (addRow H t k d) (b + 3 * c) :=
  Bnd.more (Bnd.add (Bnd.add (Bnd.add h _ (hd 0).1 (hd 0).2 hc) _ (hd 1).1 (hd 1).2 hc) _ (hd 2).1 (hd 2).2 hc) (by omega)
theorem Bnd.if {H K : Nat → Int} {b c : Int} {P : Prop} [Decidable P] (h : Bnd H b) (k : Bnd K c) (hc : b ≤ c) : Bnd (if P then K else H) c := by
  split
  · exact k
  · exact h.more hc
theorem Bnd.step {H : Nat → Int} {b : Int} (h : Bnd H b) (p w n : Nat) (d : Nat → Int) (hd : ∀ j, -255 ≤ d j ∧ d j ≤ 255) : Bnd (stepH H p w n d) (b + 12240) := by
  unfold stepH
  have k1 : Bnd _ (b + 3 * 1785) := Bnd.if (P := p % w + 1 < w ∧ p + 1 < n) h (Bnd.row h (p + 1) (k := 7) (c := 1785) (d := d) (fun j => by have := hd j; omega) (by omega)) (by omega)
  have k2 : Bnd _ (b + 3 * 1785 + 3 * 765) := Bnd.if (P := 1 ≤ p % w ∧ p + w - 1 < n) k1 (Bnd.row k1 (p + w - 1) (k := 3) (c := 765) (d := d) (fun j => by have := hd j; omega) (by omega)) (by omega)
  have k3 : Bnd _ (b + 3 * 1785 + 3 * 765 + 3 * 1275) := Bnd.if (P := p + w < n) k2 (Bnd.row k2 (p + w) (k := 5) (c := 1275) (d := d) (fun j => by have := hd j; omega) (by omega)) (by omega)
  have k4 : Bnd _ (b + 3 * 1785 + 3 * 765 + 3 * 1275 + 3 * 255) := Bnd.if (P := p % w + 1 < w ∧ p + w + 1 < n) k3 (Bnd.row k3 (p + w + 1) (k := 1) (c := 255) (d := d) (fun j => by have := hd j; omega) (by omega)) (by omega)
  exact k4.more (by omega)
def rnd16 (h : Int) : Int := (2 * h + 16) / 32
def clip8 (x : Int) : Int := if x < 0 then 0 else if 255 < x then 255 else x
theorem clip8_in (x : Int) : 0 ≤ clip8 x ∧ clip8 x ≤ 255 := by unfold clip8; split <;> (try split) <;> omega
def nowAt (px : List Int) (H : Nat → Int) (p : Nat) : List Int := [clip8 (rd px 0 + rnd16 (H (3 * p))), clip8 (rd px 1 + rnd16 (H (3 * p + 1))), clip8 (rd px 2 + rnd16 (H (3 * p + 2)))]
theorem nowAt_px (px : List Int) (H : Nat → Int) (p : Nat) : isPx (nowAt px H p) = true := by
  have h1 := clip8_in (rd px 0 + rnd16 (H (3 * p)))
  have h2 := clip8_in (rd px 1 + rnd16 (H (3 * p + 1)))
  have h3 := clip8_in (rd px 2 + rnd16 (H (3 * p + 2)))
  simp [isPx, allW, nowAt, h1, h2, h3]
/-- what a pixel is wrong by -/
def wrong (now c : List Int) (j : Nat) : Int := rd now j - rd c j
def colAt (cols : List (List Int)) (k : Int) : List Int := cols.getD k.toNat []
def ditGo (cols : List (List Int)) (w n : Nat) : List (List Int) → Nat → (Nat → Int) → List Int
  | [], _, _ => []
  | px :: ps, p, H => nearGo (nowAt px H p) cols 0 0 (-1) :: ditGo cols w n ps (p + 1) (stepH H p w n (wrong (nowAt px H p) (colAt cols (nearGo (nowAt px H p) cols 0 0 (-1)))))
theorem near_in (px : List Int) : ∀ (l : List (List Int)) (i best least : Int), 0 ≤ i → 0 ≤ best → best < i ∨ (best = 0 ∧ i = 0 ∧ l ≠ []) → 0 ≤ nearGo px l i best least ∧ nearGo px l i best least < i + l.length := by
  intro l
  induction l with
  | nil =>
    intro i best least h0 hb h
    simp only [nearGo, List.length_nil, Int.natCast_zero, Int.add_zero]
    rcases h with h | h
    · exact ⟨hb, h⟩
    · exact absurd rfl h.2.2
  | cons c l ih =>
    intro i best least h0 hb h
    simp only [nearGo]
    split
    · have := ih (i + 1) i (dist c px) (by omega) h0 (.inl (by omega)); simp only [List.length_cons, Int.natCast_add, Int.natCast_one]; omega
    · have := ih (i + 1) best least (by omega) hb (.inl (by omega)); simp only [List.length_cons, Int.natCast_add, Int.natCast_one]; omega
theorem wrong_in {px c : List Int} (hp : isPx px = true) (hc : isPx c = true) (j : Nat) : -255 ≤ wrong px c j ∧ wrong px c j ≤ 255 := by
  obtain ⟨a, b, c', rfl, h1, h2, h3, h4, h5, h6⟩ := isPx_three hp
  obtain ⟨x, y, z, rfl, g1, g2, g3, g4, g5, g6⟩ := isPx_three hc
  unfold wrong rd
  match j with
  | 0 => simp; omega
  | 1 => simp; omega
  | 2 => simp; omega
  | j + 3 =>
    have e : ((j + 3 : Nat) : Int).toNat = j + 3 := by omega
    rw [e]
    simp
/-- Dither, as told -/
def ditOk (l : List (List Int)) (w : Int) (c : List (List Int)) : Bool := (decide (l.length ≤ 4096) && l.all isPx) && isCols c && (decide (1 ≤ w) && decide (w ≤ 4096)) && decide (l.length % w.toNat = 0)
def ditM (l : List (List Int)) (w : Int) (c : List (List Int)) : List Int := if ditOk l w c then ditGo c w.toNat l.length l 0 (fun _ => 0) else []

end Go.Proofs.Ytcjjmfpkhhdmlaa.G

namespace Go.Proofs.Ytcjjmfpkhhdmlaa.G
open Go.RowKit Go.Proofs.YtcjjmfpkhhdmlaaW.PrintWords Go.Proofs.YtcjjmfpkhhdmlaaW.PrintLast Go.Proofs.YtcjjmfpkhhdmlaaW.PrintMore
attribute [local go_sem] max2_int min2_int max_two min_two max_three min_three max_four min_four   -- for this text's walks alone
set_option linter.unusedVariables false
set_option linter.unusedSimpArgs false

/-! a number of a row of a nest of rows is written -/
theorem S_rowput {tI tR g n cap base : Nat} {W : World} {ok : Nat → Prop} {xs : List (List Int)} (h : Kd.S (Kd.slice tI (Kd.int .i64)) tR W base ok (.slice (some ⟨g, 0, none⟩) n cap) xs) (i j : Nat) (hi : i < n) (hj : j < (xs.getD i []).length) :
    ∃ b cp, W.cell? ⟨g, i, none⟩ = some (.slice (some ⟨b, 0, none⟩) (xs.getD i []).length cp) ∧ W.cell? ⟨b, j, none⟩ = some (.int .i64 (rd (xs.getD i []) j)) ∧ W.frozen? ⟨b, j, none⟩ = false ∧ base ≤ b ∧ ok b ∧ (∃ cells, W.heap[b]? = some (.cells cells tI (0, 0))) ∧
      ∀ v : Int, Kd.S (Kd.slice tI (Kd.int .i64)) tR (W.setCell ⟨b, j, none⟩ (.int .i64 v)) base ok (.slice (some ⟨g, 0, none⟩) n cap) (xs.set i ((xs.getD i []).set j v)) ∧ W.grownBy (W.setCell ⟨b, j, none⟩ (.int .i64 v)) (some b) := by
  obtain ⟨oki, c, hcl, hM, hcc, hoki, hH⟩ := Kd.S_lend h [] (i : Int) (by omega) (by omega)
  obtain ⟨ve, rfl, hRe⟩ := hM
  have hx := hcc 0 ve rfl
  rw [show (Kd.slice tI (Kd.int .i64)).sz = 1 from rfl, Nat.mul_one, Nat.add_zero, Int.toNat_natCast] at hx
  rw [Int.toNat_natCast] at hRe
  obtain ⟨b, cp, rfl, hb, hlt, hcells⟩ := Kd.R_form hRe (by omega)
  have h1 := Kd.R_celln (0 : Int) hRe (j : Int) (by omega) (by omega)
  rw [Int.toNat_natCast] at h1
  have hokb : oki b := hRe.1 b rfl
  refine ⟨b, cp, hx, ?_, h1.2, hb, (hoki b hokb).1, hcells, fun v => ?_⟩
  · rw [h1.1]
    simp [rdOf, rd]
  · have h2 := Kd.R_putg hRe (j : Int) v
    rw [Int.toNat_natCast] at h2
    refine ⟨?_, h2.2⟩
    have h3 := Kd.H_back (Kd.H_grown hH h2.2 (fun k hk => by injection hk with hk; subst hk; exact hokb)) (Kd.M_row h2.1) (fun _ hk => hk)
    rwa [Int.toNat_natCast] at h3

end Go.Proofs.Ytcjjmfpkhhdmlaa.G

namespace Go.Proofs.Ytcjjmfpkhhdmlaa.G
open Go.RowKit Go.Proofs.YtcjjmfpkhhdmlaaW.PrintWords Go.Proofs.YtcjjmfpkhhdmlaaW.PrintLast Go.Proofs.YtcjjmfpkhhdmlaaW.PrintMore
attribute [local go_sem] max2_int min2_int max_two min_two max_three min_three max_four min_four   -- for this text's walks alone
set_option linter.unusedVariables false
set_option linter.unusedSimpArgs false

/-! ### spec_Dither: function 36 -/
--import Derived.BigRegion
--import Derived.Deep.CutRange
--import Derived.Deep.LoopGhost
--import Derived.Deep.RegionHeld3
def spec_Dither.f (l0 : List (List Int)) (a1 : Int) (l1 : List (List Int)) : Option (List Int) := if l0.length ≤ 9223372036854775807 then some (ditM l0 a1 l1) else none
theorem ditM_not {l0 l1 : List (List Int)} {a1 : Int} (h : ditOk l0 a1 l1 = false) : ditM l0 a1 l1 = [] := by simp [ditM, h]
/-- the rows of numbers that are handed on -/
def rowsOf (H : Nat → Int) (n : Nat) : List (List Int) := (List.range n).map fun p => [H (3 * p), H (3 * p + 1), H (3 * p + 2)]
theorem rowsOf_len (H : Nat → Int) (n : Nat) : (rowsOf H n).length = n := by simp [rowsOf]
theorem rowsOf_get (H : Nat → Int) (n t : Nat) (ht : t < n) : (rowsOf H n).getD t [] = [H (3 * t), H (3 * t + 1), H (3 * t + 2)] := by simp [rowsOf, ht]
theorem rowsOf_zero (n : Nat) : rowsOf (fun _ => 0) n = List.replicate n [0, 0, 0] := by
  apply List.ext_getElem (by simp [rowsOf])
  intro i h1 h2
  simp [rowsOf]
theorem rowsOf_set (H : Nat → Int) (n t j : Nat) (u : Int) (ht : t < n) (hj : j < 3) : (rowsOf H n).set t (((rowsOf H n).getD t []).set j (H (3 * t + j) + u)) = rowsOf (addAt H (3 * t + j) u) n := by
  rw [rowsOf_get _ _ _ ht]
  apply List.ext_getElem (by simp [rowsOf])
  intro i h1 h2
  rw [List.getElem_set]
  have hj3 : j = 0 ∨ j = 1 ∨ j = 2 := by omega
  by_cases hi : t = i
  · subst hi
    rw [if_pos rfl]
    rcases hj3 with h | h | h <;> subst h <;> simp [rowsOf, addAt]
  · rw [if_neg hi]
    simp only [rowsOf, List.getElem_map, List.getElem_range, addAt]
    rw [if_neg (by omega), if_neg (by omega), if_neg (by omega)]
theorem floor32 (x : Int) (h0 : -1099511627776 ≤ x) (h1 : x ≤ 1099511627776) : spec_l05Floor.f x 32 = some (x / 32) := by
  unfold spec_l05Floor.f
  by_cases hx : x ≥ 0
  · rw [if_pos hx, if_neg (by omega)]
    rw [Int.tdiv_eq_ediv_of_nonneg (by omega), wrap_in (x / 32) (by omega) (by omega)]
  · rw [if_neg hx, if_neg (by omega)]
    rw [wrap_in (-x) (by omega) (by omega), wrap_in (-x + 32) (by omega) (by omega), wrap_in (-x + 32 - 1) (by omega) (by omega)]
    have e : Int.tdiv (-x + 32 - 1) 32 = (-x + 31) / 32 := by rw [Int.tdiv_eq_ediv_of_nonneg (by omega)]; congr 1; omega
    rw [e, wrap_in ((-x + 31) / 32) (by omega) (by omega), wrap_in (-((-x + 31) / 32)) (by omega) (by omega)]
    congr 1
    omega
theorem round16 (x : Int) (h0 : -99511627776 ≤ x) (h1 : x ≤ 99511627776) : spec_l05Round.f x 16 = some (rnd16 x) := by
  unfold spec_l05Round.f rnd16
  rw [wrap_in (2 * x) (by omega) (by omega), wrap_in (2 * x + 16) (by omega) (by omega), wrap_in (2 * 16) (by omega) (by omega)]
  rw [show (2 : Int) * 16 = 32 from rfl, floor32 _ (by omega) (by omega)]
  rfl
theorem clip255 (x : Int) : spec_l05Clip.f x 0 255 = some (clip8 x) := by
  unfold spec_l05Clip.f clip8
  by_cases h : x < 0
  · rw [if_pos h, if_pos h]
  · rw [if_neg h, if_neg h]
    by_cases h2 : x > 255
    · rw [if_pos h2, if_pos h2]
    · rw [if_neg h2, if_neg h2]
def OnS (W : World) (N0 N1 : Nat) (v8 : Value) (H : Nat → Int) (n : Nat) : Prop := Kd.S (Kd.slice 3 (Kd.int .i64)) 22 W N0 (fun k => N0 ≤ k ∧ k < N1) v8 (rowsOf H n)
theorem OnS.put {W : World} {N0 N1 g cap n m : Nat} {H : Nat → Int} (h : OnS W N0 N1 (.slice (some ⟨g, 0, none⟩) m cap) H n) (hm : m = n) (t j : Nat) (ht : t < n) (hj : j < 3) :
    ∃ b cp, W.cell? ⟨g, t, none⟩ = some (.slice (some ⟨b, 0, none⟩) 3 cp) ∧ W.cell? ⟨b, j, none⟩ = some (.int .i64 (H (3 * t + j))) ∧ W.frozen? ⟨b, j, none⟩ = false ∧ N0 ≤ b ∧ b < N1 ∧
      ∀ u v : Int, v = H (3 * t + j) + u → OnS (W.setCell ⟨b, j, none⟩ (.int .i64 v)) N0 N1 (.slice (some ⟨g, 0, none⟩) m cap) (addAt H (3 * t + j) u) n := by
  subst hm
  have hl : ((rowsOf H m).getD t []).length = 3 := by rw [rowsOf_get _ _ _ ht]; rfl
  obtain ⟨b, cp, h1, h2, h3, h4, h5, h6, h7⟩ := S_rowput h t j ht (by rw [hl]; exact hj)
  rw [hl] at h1
  refine ⟨b, cp, h1, ?_, h3, h4, h5.2, fun u v hv => ?_⟩
  · rw [h2, rowsOf_get _ _ _ ht]
    have hj3 : j = 0 ∨ j = 1 ∨ j = 2 := by omega
    rcases hj3 with h | h | h <;> subst h <;> rfl
  · subst hv
    have := (h7 (H (3 * t + j) + u)).1
    rw [rowsOf_set H m t j u ht hj] at this
    exact this
theorem now_next (px : List Int) (H : Nat → Int) (p i : Nat) (hi : i < 3) : (nowAt px H p).take i ++ [clip8 (rd px i + rnd16 (H (p * 3 + i)))] = (nowAt px H p).take (i + 1) := by
  have : i = 0 ∨ i = 1 ∨ i = 2 := by omega
  rcases this with h | h | h <;> subst h <;> simp [nowAt, Nat.mul_comm]
/-- the first j numbers of a pixel have handed on -/
def stepUp (H : Nat → Int) (p w n : Nat) (d : Nat → Int) : Nat → Nat → Int
  | 0 => H
  | j + 1 => stepJ (stepUp H p w n d j) p w n j (d j)
theorem stepUp_three (H : Nat → Int) (p w n : Nat) (d : Nat → Int) (hw : 0 < w) (hn : n % w = 0) (hp : p < n) : stepUp H p w n d 3 = stepH H p w n d := step_same H p w n d hw hn hp
theorem stepJ_bnd {H : Nat → Int} {b d : Int} (h : Bnd H b) (p w n j : Nat) (h1 : -255 ≤ d) (h2 : d ≤ 255) : Bnd (stepJ H p w n j d) (b + 4080) := by
  unfold stepJ
  have k1 : Bnd _ (b + 1785) := Bnd.if (P := p % w + 1 < w) h (Bnd.add h (3 * (p + 1) + j) (v := 7 * d) (c := 1785) (by omega) (by omega) (by omega)) (by omega)
  have k2 : Bnd _ (b + 1785 + 765) := Bnd.if (P := 0 < p % w) k1 (Bnd.add k1 (3 * (p + w - 1) + j) (v := 3 * d) (c := 765) (by omega) (by omega) (by omega)) (by omega)
  have k3 : Bnd _ (b + 1785 + 765 + 1275) := Bnd.add k2 (3 * (p + w) + j) (v := 5 * d) (c := 1275) (by omega) (by omega) (by omega)
  have k4 : Bnd _ (b + 1785 + 765 + 1275 + 255) := Bnd.if (P := p % w + 1 < w) k3 (Bnd.add k3 (3 * (p + w + 1) + j) (v := d) (c := 255) (by omega) (by omega) (by omega)) (by omega)
  exact Bnd.if (P := n ≤ p + w) (k4.more (c := b + 4080) (by omega)) (k1.more (c := b + 4080) (by omega)) (Int.le_refl _)
theorem stepUp_bnd {H : Nat → Int} {b : Int} {d : Nat → Int} (h : Bnd H b) (p w n : Nat) (hd : ∀ j, -255 ≤ d j ∧ d j ≤ 255) : ∀ j : Nat, Bnd (stepUp H p w n d j) (b + 4080 * j)
  | 0 => h.more (by omega)
  | j + 1 => (stepJ_bnd (stepUp_bnd h p w n hd j) p w n j (hd j).1 (hd j).2).more (by omega)
/-- what lies still while numbers are handed on -/
def HandR (w wo W : World) (N0 N1 : Nat) (vg : Value) (H : Nat → Int) (n : Nat) (An : Option Addr) (cn : Nat) (now : List Int) (vo : Value) (out : List Int) : Prop :=
  OnS W N0 N1 vg H n ∧ Kd.R (Kd.int .i64) 3 W wo.heap.size (fun k => wo.heap.size ≤ k) (.slice An 3 cn) now ∧ Kd.R (Kd.int .i64) 3 W w.heap.size (fun k => k < N0 ∨ N1 ≤ k) vo out ∧ Below w.heap.size w W ∧ N1 ≤ W.heap.size
theorem HandR.put {w wo W : World} {N0 N1 g cap n : Nat} {H : Nat → Int} {An : Option Addr} {cn : Nat} {now : List Int} {vo : Value} {out : List Int} (h : HandR w wo W N0 N1 (.slice (some ⟨g, 0, none⟩) n cap) H n An cn now vo out) (hN : N1 ≤ wo.heap.size) (h0 : w.heap.size ≤ N0) (t j : Nat) (ht : t < n) (hj : j < 3) :
    ∃ b cp, W.cell? ⟨g, t, none⟩ = some (.slice (some ⟨b, 0, none⟩) 3 cp) ∧ W.cell? ⟨b, j, none⟩ = some (.int .i64 (H (3 * t + j))) ∧ W.frozen? ⟨b, j, none⟩ = false ∧
      ∀ u v : Int, v = H (3 * t + j) + u → HandR w wo (W.setCell ⟨b, j, none⟩ (.int .i64 v)).drew N0 N1 (.slice (some ⟨g, 0, none⟩) n cap) (addAt H (3 * t + j) u) n An cn now vo out := by
  obtain ⟨h1, h2, h3, h4, h5⟩ := h
  obtain ⟨b, cp, q1, q2, q3, q4, q5, q6⟩ := h1.put rfl t j ht hj
  refine ⟨b, cp, q1, q2, q3, fun u v hv => ⟨Kd.S_drew (q6 u v hv), Kd.R_drew (Kd.R_far (p := ⟨b, j, none⟩) h2 (fun k hk => by show k ≠ b; omega) _), Kd.R_drew (Kd.R_far (p := ⟨b, j, none⟩) h3 (fun k hk => by show k ≠ b; omega) _), below_drew (below_set h4 (by show w.heap.size ≤ b; omega)), ?_⟩⟩
  show N1 ≤ (W.setCell ⟨b, j, none⟩ (.int .i64 v)).heap.size
  rw [World.size_setCell]
  exact h5
def DsRel (w : World) (N0 N1 : Nat) (v8 : Value) (l0 l1 : List (List Int)) (wd : Nat) (r : List Int) (kq : Nat) (v7 v10 : Value) (w' : World) : Prop :=
  ∃ (p : Nat) (H : Nat → Int) (out : List Int), v10 = .int .i64 p ∧ p ≤ l0.length ∧ kq = l0.length - p + 1 ∧ Aside0 (OnS w' N0 N1 v8 H l0.length) ∧ Aside0 (Bnd H (12240 * p)) ∧
    Aside0 (Kd.R (Kd.int .i64) 3 w' w.heap.size (fun k => k < N0 ∨ N1 ≤ k) v7 out) ∧ Aside0 (out ++ ditGo l1 wd l0.length (l0.drop p) p H = r) ∧ Aside0 (out.length = p) ∧ Aside0 (Below w.heap.size w w') ∧ Aside0 (N1 ≤ w'.heap.size)
set_option maxRecDepth 100000 in
set_option maxHeartbeats 4000000 in
theorem spec_Dither.calls (A0 : Option Addr) (c0 : Nat) (l0 : List (List Int)) (a1 : Int) (A1 : Option Addr) (c1 : Nat) (l1 : List (List Int)) (r : List Int) (w : World) (hr0 : Kd.C (Kd.slice 3 (Kd.int .i64)) w A0 l0.length l0) (hc0 : l0.length ≤ c0) (hr1 : Kd.C (Kd.slice 3 (Kd.int .i64)) w A1 l1.length l1) (hc1 : l1.length ≤ c1) (h : spec_Dither.f l0 a1 l1 = some r) :
    Calls Try.prog 36 #[.slice A0 l0.length c0, .int .i64 a1, .slice A1 l1.length c1] w fun e w' => ∃ v0_ : Value, e = .returned (v0_) ∧ Kd.R (Kd.int .i64) 3 w' w.heap.size (fun _ => True) v0_ r ∧ Below w.heap.size w w' := by
  unfold spec_Dither.f at h
  split at h
  · rename_i hlen
    have HH := Aside0.mk (Option.some.inj h)
    have HR0 := Aside0.mk hr0
    have HC0 := Aside0.mk hc0
    have HR1 := Aside0.mk hr1
    have HC1 := Aside0.mk hc1
    clear h hr0 hc0 hr1 hc1
    obtain ⟨p, hp⟩ : ∃ p : Bool, p = (decide (l0.length ≤ 4096) && l0.all isPx) := ⟨_, rfl⟩
    obtain ⟨q, hq⟩ : ∃ q : Bool, q = isCols l1 := ⟨_, rfl⟩
    obtain ⟨u, hu⟩ : ∃ u : Bool, u = (decide (1 ≤ a1) && decide (a1 ≤ 4096)) := ⟨_, rfl⟩
    have hok : ditOk l0 a1 l1 = (p && q && u && decide (l0.length % a1.toNat = 0)) := by rw [ditOk, hp, hq, hu]
    obtain ⟨kp, hpv⟩ := (spec_PixelsOk.ev l0).rounds
    obtain ⟨kq, hqv⟩ := (spec_l21Colours.ev l1).rounds
    have huv := spec_l01Between.val a1 1 4096
    rw [← hp] at hpv
    rw [← hq] at hqv
    rw [← hu] at huv
    have HP := Aside0.mk hp
    have HQ := Aside0.mk hq
    have HU := Aside0.mk hu
    have HOK := Aside0.mk hok
    have HPV := Aside0.mk hpv
    have HQV := Aside0.mk hqv
    have HUV := Aside0.mk huv
    clear hp hq hu hok hpv hqv huv
    go_enter Try.func36, Try.ntmps36
    go_upto_region 2 with (first | ((with_reducible refine gate_dst (N := 17) rfl ?_); refine Kd.R_lit (w0 := w) (Kd.int .i64) w.heap.size 3 ?hg (N := 17) ?hd (xs := ([] : List Int)) (inner := []) (ok := fun _ => True) (okp := fun _ => True) ?hr ?hp (fun _ hk => hk) trivial (Below.refl _ _) (Nat.le_refl _) (by simp) ?_; (case hd => rfl); (case hg => rfl); (case hr => first | (go_simp; done) | (go_simp; rfl)); (case hp => exact (Reps.none _ _)); intro v7 W1 ho hb hg_ hnew_; have HO := Aside0.mk ho; have HB1 := Aside0.mk hb; clear ho hb hg_ hnew_))
    go_wp2_with fail
    refine (spec_PixelsOk.calls kp A0 c0 l0 p _ (Kd.C_below HR0.out HB1.out) HC0.out HPV.out).mono ?_
    rintro e_ w_ ⟨rfl, ⟨n1, rfl⟩⟩
    have HB2 := Aside0.mk (pw_below_drewN HB1.out n1)
    cases p with
    | false =>
      go_wp2
      have := HH.out
      rw [ditM_not (by rw [HOK.out]; rfl)] at this
      subst this
      go_ret
      exact ⟨_, rfl, Kd.R_drewN HO.out _, HB2.out⟩
    | true =>
      go_wp2_with fail
      refine (spec_l21Colours.calls kq A1 c1 l1 q _ (Kd.C_below HR1.out HB2.out) HC1.out HQV.out).mono ?_
      rintro e_ w_ ⟨rfl, ⟨n2, rfl⟩⟩
      have HB3 := Aside0.mk (pw_below_drewN HB1.out (n1 + n2))
      cases q with
      | false =>
        go_wp2
        have := HH.out
        rw [ditM_not (by rw [HOK.out]; rfl)] at this
        subst this
        go_ret
        exact ⟨_, rfl, Kd.R_drewN HO.out _, HB3.out⟩
      | true =>
        go_wp2_with fail
        refine (spec_l01Between.calls a1 1 4096 u _ HUV.out).mono ?_
        rintro e_ w_ ⟨rfl, ⟨n3, rfl⟩⟩
        have HB4 := Aside0.mk (pw_below_drewN HB1.out (n1 + n2 + n3))
        cases u with
        | false =>
          go_wp2
          have := HH.out
          rw [ditM_not (by rw [HOK.out]; rfl)] at this
          subst this
          go_ret
          exact ⟨_, rfl, Kd.R_drewN HO.out _, HB4.out⟩
        | true =>
          obtain ⟨u1, u2⟩ : 1 ≤ a1 ∧ a1 ≤ 4096 := by have := HU.out; simpa using this.symm
          obtain ⟨wd, rfl⟩ : ∃ wd : Nat, a1 = (wd : Int) := ⟨a1.toNat, by omega⟩
          have hl4 : l0.length ≤ 4096 ∧ l0.all isPx = true := by have := HP.out; simpa using this.symm
          obtain ⟨hl5, hpx⟩ := hl4
          have HPX := Aside0.mk hpx
          clear hpx
          by_cases hmod : l0.length % wd = 0
          · have hmb : ((l0.length : Int) % (wd : Int) != 0) = false := by
              have : (l0.length : Int) % (wd : Int) = ((l0.length % wd : Nat) : Int) := by simp
              rw [this, hmod]; rfl
            have HIS := Aside0.mk (show ditGo l1 wd l0.length l0 0 (fun _ => 0) = r by
              have := HH.out
              rwa [ditM, if_pos (by rw [HOK.out]; simp [hmod]), Int.toNat_natCast] at this)
            have HMOD := Aside0.mk hmod
            clear HH hmod
            go_upto_region 4 with (fail)
            generalize hW2 : W1.drewN (n1 + n2 + n3) = W2
            have HB : Aside0 (Below w.heap.size w W2) := by rw [← hW2]; exact HB4
            have HO2 : Aside0 (Kd.R (Kd.int .i64) 3 W2 w.heap.size (fun _ => True) v7 []) := by rw [← hW2]; exact ⟨Kd.R_drewN HO.out _⟩
            clear hW2 HB1 HB2 HB3 HB4 hmb HO
            go_upto_region 6 with (first | ((with_reducible refine gate_dst (N := 39) rfl ?_); refine Kd.S_lit (w0 := W2) (Kd.slice 3 (Kd.int .i64)) W2.heap.size 22 ?hg (N := 39) ?hd (xs := ([] : List (List Int))) (inner := []) (ok := fun k => W2.heap.size ≤ k) (okp := fun _ => False) ?hr ?hp (fun _ hk => hk.elim) (Nat.le_refl _) (Below.refl _ _) (Nat.le_refl _) (by simp) ?_; (case hd => rfl); (case hg => rfl); (case hr => first | (go_simp; done) | (go_simp; rfl)); (case hp => exact (Reps.none _ _)); intro v8 W3 ho hb hg_ hnew_; have HON := Aside0.mk ho; have HB5 := Aside0.mk hb; clear ho hb hg_ hnew_))
            go_loopg [8, 9] (l0.length + 1) (fun kq v8 v9 w' => ∃ i : Nat, v9 = .int .i64 i ∧ i ≤ l0.length ∧ kq = l0.length - i + 1 ∧ Aside0 (Kd.S (Kd.slice 3 (Kd.int .i64)) 22 w' W2.heap.size (fun k => W2.heap.size ≤ k) v8 (List.replicate i [0, 0, 0])) ∧ Aside0 (Below W2.heap.size W2 w'))
            case atStart => exact ⟨0, rfl, by omega, by omega, HON, HB5⟩
            case round =>
              clear HON HB5
              obtain ⟨i, rfl, hi, rfl, HON, HBL⟩ := hrel
              by_cases hlt : i < l0.length
              · obtain ⟨A8, c8, e8⟩ := Kd.S_slice HON.out
                rw [List.length_replicate] at e8
                subst e8
                have hs8 : ∀ k, (Value.slice A8 i c8).ownBlock = some k → k < wr.heap.size := fun k hk => Kd.S_lt HON.out k hk
                have HS8 := Aside0.mk hs8
                have hsz := HBL.out.size
                clear hs8
                go_wp2_with (first | ((with_reducible refine gate_dst (N := 47) rfl ?_); refine Kd.R_lit (w0 := wr) (Kd.int .i64) wr.heap.size 3 ?hg (N := 47) ?hd (xs := [0, 0, 0]) (inner := [.int .i64 0, .int .i64 0, .int .i64 0]) (ok := fun k => wr.heap.size ≤ k) (okp := fun _ => False) ?hr ?hp (fun _ hk => hk.elim) (Nat.le_refl _) (Below.refl _ _) (Nat.le_refl _) (by simp) ?_; (case hd => rfl); (case hg => rfl); (case hr => first | (go_simp; done) | (go_simp; rfl)); (case hp => exact ((((Reps.none _ _).snoc (p := (0 : Int)) (c := [.int .i64 0]) rfl rfl).snoc (p := (0 : Int)) (c := [.int .i64 0]) rfl rfl).snoc (p := (0 : Int)) (c := [.int .i64 0]) rfl rfl)); intro v47 wl ho hb hg_ hnew_; (obtain ⟨A47, c47, e47⟩ := Kd.R_slice ho); (have e47b : v47 = .slice A47 3 c47 := e47); subst e47b; clear e47; have HROW := Aside0.mk (Kd.R_lower ho hsz); have HBR := Aside0.mk hb; have HBW := Aside0.mk (Below.trans HBL.out (hb.mono hsz)); have HOLD := Aside0.mk (Kd.S_mono (ok' := fun k => W2.heap.size ≤ k ∧ ¬ wr.heap.size ≤ k) (Kd.S_old HON.out hb) (fun k hk => ⟨hk.1, Nat.not_le.2 hk.2⟩)); clear ho hb hg_ hnew_) | ((with_reducible refine gate_builtin (b := .append) (xs := #[.tmp 46, .tmp 48]) rfl ?_); at_builtin; refine Kd.S_append (Kd.slice 3 (Kd.int .i64)) (w0 := W2) W2.heap.size rfl (.tmp 46) (.tmp 48) 36 22 (.slice none 0 0) 24 rfl Try.underlying36 info22 rfl (by decide) (by omega) _ (List.replicate i [0, 0, 0]) [0, 0, 0] [.slice A47 3 c47] (fun k => W2.heap.size ≤ k) (fun k => wr.heap.size ≤ k) rfl rfl ⟨_, rfl, HROW.out⟩ (fun k hk => ⟨by omega, fun e => absurd (HS8.out k e.symm) (by omega)⟩) (fun k hk => by have e1 := HBW.out.size; omega) HOLD.out HBW.out HBW.out.size (by rw [List.length_replicate]; omega) ?_; intro v49 w3 ho hb hg hat; have HO3 := Aside0.mk ho; have HB3 := Aside0.mk hb; clear ho hb hg hat))
                go_roundg (l0.length - (i + 1) + 1)
                case rel => exact ⟨i + 1, by go_num, by omega, by omega, ⟨by rw [List.replicate_succ']; exact HO3.out⟩, HB3⟩
                case measure => omega
              · obtain rfl : i = l0.length := by omega
                obtain ⟨W4, hw4⟩ : ∃ W4, W4 = wr := ⟨_, rfl⟩
                subst hw4
                obtain ⟨A8, c8, e8⟩ := Kd.S_slice HON.out
                rw [List.length_replicate] at e8
                subst e8
                have hN01 := HBL.out.size
                have hN0 := HB.out.size
                have HOS := Aside0.mk (show OnS W4 W2.heap.size W4.heap.size (.slice A8 l0.length c8) (fun _ => 0) l0.length by
                  unfold OnS
                  rw [rowsOf_zero]
                  exact Kd.S_mono (Kd.S_bound HON.out) (fun k hk => ⟨hk.1, hk.2.2.1⟩))
                have HO4 := Aside0.mk (show Kd.R (Kd.int .i64) 3 W4 w.heap.size (fun k => k < W2.heap.size ∨ W4.heap.size ≤ k) v7 [] from Kd.R_below (Kd.R_mono (Kd.R_bound HO2.out) (fun k hk => .inl hk.2.2.1)) HBL.out)
                have HBw4 := Aside0.mk (Below.trans HB.out (HBL.out.mono hN0))
                clear HON HBL HO2 HB
                generalize W2.heap.size = N0 at HOS HO4 hN01 hN0
                generalize hN1 : W4.heap.size = N1 at HOS HO4 hN01
                have HN1 := Aside0.mk (Nat.le_of_eq hN1.symm)
                clear hN1
                go_wp2
                go_loopg [7, 10] (l0.length + 1) (fun kq v7 v10 w' => DsRel w N0 N1 (.slice A8 l0.length c8) l0 l1 wd r kq v7 v10 w')
                case atStart => exact ⟨0, fun _ => 0, [], rfl, by omega, by omega, HOS, ⟨fun q => by show -(12240 * ((0 : Nat) : Int)) ≤ 0 ∧ (0 : Int) ≤ 12240 * ((0 : Nat) : Int); omega⟩, HO4, ⟨by simpa using HIS.out⟩, ⟨rfl⟩, HBw4, HN1⟩
                case round =>
                  clear HOS HO4 HIS HBw4 HN1
                  obtain ⟨p, H, out, rfl, hp, rfl, HOS, HBN, HO, HR, HL, HBw, HN1⟩ := hrel
                  obtain ⟨wo, hwo⟩ : ∃ wo, wo = wr := ⟨_, rfl⟩
                  subst hwo
                  obtain ⟨A7, c7, e7⟩ := Kd.R_slice HO.out
                  subst e7
                  by_cases hlt : p < l0.length
                  · obtain ⟨ad, Ap, cp, q1, hx, hl, hi1⟩ := at_L3 HR0.out (p : Int) (by omega) (by omega)
                    cases q1
                    rw [Int.toNat_natCast] at hx
                    have hrl : rd_L3 l0 p = l0[p] := by simp [rd_L3, hlt]
                    rw [hrl] at hx hl hi1
                    obtain ⟨px, hpxe⟩ : ∃ px, px = l0[p] := ⟨_, rfl⟩
                    rw [← hpxe] at hx hl hi1
                    have hpx3 : isPx px = true := by rw [hpxe]; exact List.all_eq_true.1 HPX.out _ (List.getElem_mem hlt)
                    have HPX3 := Aside0.mk hpx3
                    have HPXE := Aside0.mk hpxe
                    have hlen3 : px.length = 3 := by
                      obtain ⟨_, _, _, h3, _⟩ := isPx_three hpx3
                      rw [h3]; rfl
                    have HL3 := Aside0.mk hlen3
                    replace hx := (HBw.out.cell (World.block_lt_of_cell? w _ hx)).trans hx
                    have HX := Aside0.mk hx
                    have HI1 := Aside0.mk hi1
                    have HL1 := Aside0.mk hl
                    obtain ⟨g, cap, e2, hgb, hgl, _⟩ := Kd.S_form HOS.out (by rw [rowsOf_len]; omega)
                    injection e2 with e2 e4 e3
                    subst e2; subst e3
                    clear e4 hx hi1 hl hlen3 hpx3 hpxe hrl hgb hgl
                    go_upto_region 13 with (first | ((with_reducible refine gate_dst (N := 56) rfl ?_); refine Kd.R_lit (w0 := wo) (Kd.int .i64) wo.heap.size 3 ?hg (N := 56) ?hd (xs := ([] : List Int)) (inner := []) (ok := fun k => wo.heap.size ≤ k) (okp := fun _ => False) ?hr ?hp (fun _ hk => hk.elim) (Nat.le_refl _) (Below.refl _ _) (Nat.le_refl _) (by simp) ?_; (case hd => rfl); (case hg => rfl); (case hr => first | (go_simp; done) | (go_simp; rfl)); (case hp => exact (Reps.none _ _)); intro v56 W5 ho hb hg_ hnew_; have HNL := Aside0.mk ho; have HBW := Aside0.mk hb; clear ho hb hg_ hnew_))
                    go_wp2
                    go_loopg [11, 12] 4 (fun kq v11 v12 w' => ∃ j : Nat, v12 = .int .i64 j ∧ j ≤ 3 ∧ kq = 3 - j + 1 ∧ Aside0 (Kd.R (Kd.int .i64) 3 w' wo.heap.size (fun k => wo.heap.size ≤ k) v11 ((nowAt px H p).take j)) ∧ Aside0 (Below wo.heap.size wo w'))
                    case atStart => exact ⟨0, rfl, by omega, by omega, ⟨by simpa using HNL.out⟩, HBW⟩
                    case round =>
                      clear HNL HBW
                      obtain ⟨j, rfl, hj, rfl, HNL, HBW⟩ := hrel
                      by_cases hlj : j < 3
                      · skip
                        --[
                        obtain ⟨vn, cn, en⟩ := Kd.R_slice HNL.out
                        subst en
                        have hj3z : (j : Int) < 3 := by omega
                        have hjp : j < px.length := by have := HL3.out; omega
                        obtain ⟨ap, q2, hy⟩ := Kd.at_int HI1.out (j : Int) (by omega) (by omega)
                        cases q2
                        rw [Int.toNat_natCast] at hy
                        replace hy := (HBw.out.cell (World.block_lt_of_cell? w _ hy)).trans hy
                        obtain ⟨b, cpb, c1_, c2_, c3_, c4_, c5_, _⟩ := OnS.put HOS.out rfl p j hlt hlj
                        obtain ⟨hv, hhv⟩ : ∃ hv, hv = H (3 * p + j) := ⟨_, rfl⟩
                        have hbv := HBN.out (3 * p + j)
                        rw [← hhv] at hbv c2_
                        have hrd0 := round16 hv (by omega) (by omega)
                        have hcl0 := clip255 (rd px j + rnd16 hv)
                        have HRD := Aside0.mk hrd0
                        have HCL := Aside0.mk hcl0
                        have HHV := Aside0.mk hhv
                        have hr16 : -99511627776 ≤ rnd16 hv ∧ rnd16 hv ≤ 99511627776 := by unfold rnd16; omega
                        have hpi : 0 ≤ rd px j ∧ rd px j ≤ 255 := by
                          obtain ⟨x1, x2, x3, h3, a1, a2, a3, a4, a5, a6⟩ := isPx_three HPX3.out
                          rw [h3]
                          have : j = 0 ∨ j = 1 ∨ j = 2 := by omega
                          rcases this with h | h | h <;> subst h <;> simp [rd] <;> omega
                        have vw2 : IntKind.i64.wrap (rd px j + rnd16 hv) = rd px j + rnd16 hv := (i64_w _).trans (wrap_in _ (by omega) (by omega))
                        have KS := Aside0.mk (show ∀ W', Below wo.heap.size wo W' → W'.cell? (ad.add p) = some (.slice (some ap) px.length cp) ∧ W'.cell? (ap.add j) = some (.int .i64 (rd px j)) ∧ W'.cell? ⟨g, p, none⟩ = some (.slice (some ⟨b, 0, none⟩) 3 cpb) ∧ W'.cell? ⟨b, j, none⟩ = some (.int .i64 hv) from
                          fun W' hb => ⟨(hb.cell (World.block_lt_of_cell? wo _ HX.out)).trans HX.out, (hb.cell (World.block_lt_of_cell? wo _ hy)).trans hy, (hb.cell (World.block_lt_of_cell? wo _ c1_)).trans c1_, (hb.cell (World.block_lt_of_cell? wo _ c2_)).trans c2_⟩)
                        obtain ⟨s1, s2, s3, s4⟩ := KS.out wr HBW.out
                        obtain ⟨pre, hpre⟩ : ∃ pre, pre = (nowAt px H p).take j := ⟨_, rfl⟩
                        have HNL' := HNL.out
                        rw [← hpre] at HNL'
                        have N5 := Aside0.mk HNL'
                        have hpl : pre.length = j := by rw [hpre]; simp [nowAt]; omega
                        have HNLA := Aside0.mk hpl
                        have HPRE := Aside0.mk hpre
                        rw [show ((nowAt px H p).take j).length = pre.length by rw [hpre]]
                        clear hrd0 hcl0 hhv hy c1_ c2_ c3_ HNL' hpl hpre
                        go_upto_region 16 with (fail)
                        go_region_held3 (fun w' => w'.cell? (ad.add p) = some (.slice (some ap) px.length cp) ∧ w'.cell? (ap.add j) = some (.int .i64 (rd px j)) ∧ w'.cell? ⟨g, p, none⟩ = some (.slice (some ⟨b, 0, none⟩) 3 cpb) ∧ w'.cell? ⟨b, j, none⟩ = some (.int .i64 hv)) (first | (go_keep; done) | exact KS.out _ (by (repeat (first | exact HB3.out | exact HB5.out | exact HBW.out | apply below_drew | apply pw_below_drewN | apply below_alloc))))
                          (first | (go_at_call 106; refine (spec_l05Round.calls hv 16 (rnd16 hv) _ HRD.out).mono ?_; rintro e_ w_ ⟨rfl, ⟨nd, rfl⟩⟩) | (go_at_call 105; refine (spec_l05Clip.calls _ 0 255 _ _ HCL.out).mono ?_; rintro e_ wb ⟨rfl, ⟨nd2, hwb⟩⟩; have HR5 := Aside0.mk (show Kd.R (Kd.int .i64) 3 wb wo.heap.size (fun k => wo.heap.size ≤ k) (.slice vn pre.length cn) pre by rw [hwb]; repeat (first | exact N5.out | apply Kd.R_drewN | apply Kd.R_drew)); have HB5 := Aside0.mk (show Below wo.heap.size wo wb by rw [hwb]; repeat (first | exact HBW.out | apply pw_below_drewN | apply below_drew)); clear hwb) | (refine Kd.R_append_step (Kd.int .i64) (w0 := wo) (W := wb) wo.heap.size (by rfl) (.tmp 61) (.tmp 79) 22 3 (.int .i64 0) 8 (by rfl) Try.underlying22 info3 (by rfl) (by decide) (by omega) _ pre (clip8 (rd px j + rnd16 hv)) [.int .i64 (clip8 (rd px j + rnd16 hv))] (fun k => wo.heap.size ≤ k) (fun _ => False) (by rfl) (by rfl) (by rfl) (fun _ hk => hk.elim) (fun k hk => by have e1 := HB5.out.size; omega) HR5.out HB5.out HB5.out.size (by have := HNLA.out; omega) ?_; intro v80 w3 ho hb hg hat; have HO3 := Aside0.mk ho; have HB3 := Aside0.mk hb; clear ho hb hg hat))
                        go_wp2
                        go_roundg (3 - (j + 1) + 1)
                        case rel =>
                          refine ⟨j + 1, by go_num, by omega, by omega, ⟨?_⟩, HB3⟩
                          have h9 := HO3.out
                          rw [HPRE.out, HHV.out, Nat.mul_comm 3 p, now_next px H p j hlj] at h9
                          exact h9
                        case measure => omega
                        --]
                      · obtain rfl : j = 3 := by omega
                        have hnk := HNL.out
                        rw [show (nowAt px H p).take 3 = nowAt px H p from rfl] at hnk
                        have HNK := Aside0.mk hnk
                        clear hnk HNL
                        obtain ⟨An, cn, en⟩ := Kd.R_slice HNK.out
                        rw [show (nowAt px H p).length = 3 from rfl] at en
                        subst en
                        obtain ⟨best, hbest⟩ : ∃ best, best = nearGo (nowAt px H p) l1 0 0 (-1) := ⟨_, rfl⟩
                        have hcl := isCols_len HQ.out.symm
                        have hbi := near_in (nowAt px H p) l1 0 0 (-1) (by omega) (by omega) (.inr ⟨rfl, rfl, fun e => by rw [e] at hcl; simp at hcl⟩)
                        rw [← hbest] at hbi
                        obtain ⟨b0, b1⟩ := hbi
                        rw [Int.zero_add] at b1
                        obtain ⟨kk, hkk⟩ := (spec_l21Near.ev l1 (nowAt px H p) (nowAt_px px H p) (isCols_all HQ.out.symm) (by omega)).rounds
                        rw [← hbest] at hkk
                        have HKK := Aside0.mk hkk
                        have HBEST := Aside0.mk hbest
                        have hcol : isPx (colAt l1 best) = true := by
                          have hbn : best.toNat < l1.length := by omega
                          rw [show colAt l1 best = l1[best.toNat] by simp [colAt, hbn]]
                          exact isCols_all HQ.out.symm _ (List.getElem_mem hbn)
                        have HCOL := Aside0.mk hcol
                        have HRN := Kd.R_reads' HNK.out
                        have HRN1 := Aside0.mk HRN.2.1
                        have HRN2 := Aside0.mk HRN.2.2
                        have HBwr := Aside0.mk (Below.trans HBw.out (HBW.out.mono HBw.out.size))
                        have hmd : ((p : Int) % (wd : Int)) = ((p % wd : Nat) : Int) := by simp
                        have hwz : ¬ (wd : Int) = 0 := by omega
                        have hll : out.length ≤ 4096 := by have := HL.out; omega
                        clear hkk hbest hcol HRN hcl
                        go_wp2_with fail
                        refine (spec_l21Near.calls kk A1 c1 l1 An cn (nowAt px H p) best _ (Kd.C_below HR1.out HBwr.out) HC1.out HRN2.out HRN1.out HKK.out).mono ?_
                        rintro e_ wb ⟨rfl, ⟨nd, hwb⟩⟩
                        have HBb := Aside0.mk (show Below wo.heap.size wo wb by rw [hwb]; exact pw_below_drewN HBW.out nd)
                        have HNb : Aside0 (Kd.R (Kd.int .i64) 3 wb wo.heap.size (fun k => wo.heap.size ≤ k) (.slice An 3 cn) (nowAt px H p)) := by rw [hwb]; exact ⟨Kd.R_drewN HNK.out nd⟩
                        have HBwb := Aside0.mk (Below.trans HBw.out (HBb.out.mono HBw.out.size))
                        have HOb := Aside0.mk (Kd.R_below HO.out HBb.out)
                        have hN1o := HN1.out
                        have hszb := HBb.out.size
                        clear hwb HBW HNK HRN1 HRN2 HBwr
                        go_upto_region 20 with (first | ((with_reducible refine gate_builtin (b := .append) (xs := #[.tmp 84, .tmp 86]) rfl ?_); at_builtin; refine Kd.R_append (Kd.int .i64) (w0 := w) w.heap.size rfl (.tmp 84) (.tmp 86) 22 3 (.int .i64 0) 8 rfl Try.underlying22 info3 rfl (by decide) (by omega) _ out best [.int .i64 best] (fun k => k < N0 ∨ N1 ≤ k) (fun _ => False) rfl rfl rfl (fun _ hk => hk.elim) (fun k hk => .inr (by omega)) HOb.out HBwb.out HBwb.out.size (by omega) ?_; intro v87 w7 ho hb hg hat; have HO7 := Aside0.mk ho; have HB7 := Aside0.mk hb; have HG7 := Aside0.mk hg; clear ho hb hg hat))
                        have hno : ∀ k, wo.heap.size ≤ k → some k ≠ (Value.slice A7 out.length c7).ownBlock := fun k hk e => absurd (Kd.R_lt HO.out k e.symm) (by omega)
                        have hno2 : ∀ k, N0 ≤ k ∧ k < N1 → some k ≠ (Value.slice A7 out.length c7).ownBlock := fun k hk e => by have := HO.out.1 k e.symm; omega
                        have HS := Aside0.mk (show HandR w wo w7 N0 N1 (.slice (some ⟨g, 0, none⟩) l0.length c8) H l0.length An cn (nowAt px H p) v87 (out ++ [best]) from
                          ⟨Kd.S_grown (Kd.S_below HOS.out HBb.out) HG7.out hno2, Kd.R_grown HNb.out HG7.out hno, HO7.out, HB7.out, by have := HG7.out.size; omega⟩)
                        clear hno hno2 HNb HO7 HB7 HG7 HOb HOS
                        rw [hmd]
                        obtain ⟨xx, hxx⟩ : ∃ xx : Nat, p % wd = xx := ⟨_, rfl⟩
                        rw [hxx]
                        have HXX := Aside0.mk hxx
                        have hxl : xx < wd := by rw [← hxx]; exact Nat.mod_lt p (by omega)
                        clear hxx hmd
                        go_wp2
                        go_loopg [15] 4 (fun kq v15 w' => ∃ j : Nat, v15 = .int .i64 j ∧ j ≤ 3 ∧ kq = 3 - j + 1 ∧ Aside0 (HandR w wo w' N0 N1 (.slice (some ⟨g, 0, none⟩) l0.length c8) (stepUp H p wd l0.length (wrong (nowAt px H p) (colAt l1 best)) j) l0.length An cn (nowAt px H p) v87 (out ++ [best])))
                        case atStart => exact ⟨0, rfl, by omega, by omega, HS⟩
                        case round =>
                          clear HS
                          obtain ⟨j, rfl, hj, rfl, HS⟩ := hrel
                          by_cases hlj : j < 3
                          · have hr2 := HS.out.2.1
                            have hbel := HS.out.2.2.2.1
                            obtain ⟨an, q2, hy⟩ := Kd.at_int (Kd.R_reads' hr2).2.2 (j : Int) (by omega) (by show (j : Int) < 3; omega)
                            cases q2
                            rw [Int.toNat_natCast] at hy
                            obtain ⟨ac, A2, c2, q3, hz, hzl, hz1⟩ := at_L3 HR1.out best b0 b1
                            cases q3
                            have HRW : rd_L3 l1 best = colAt l1 best := rfl
                            rw [HRW] at hz hzl hz1
                            obtain ⟨pa, pb, pc, hpc, _⟩ := isPx_three HCOL.out
                            have hcl3 : j < (colAt l1 best).length := by rw [hpc]; simp; omega
                            obtain ⟨ar, q4, hq⟩ := Kd.at_int hz1 (j : Int) (by omega) (by omega)
                            cases q4
                            rw [Int.toNat_natCast] at hq
                            replace hz := (hbel.cell (World.block_lt_of_cell? w _ hz)).trans hz
                            replace hq := (hbel.cell (World.block_lt_of_cell? w _ hq)).trans hq
                            have hwr := wrong_in (nowAt_px px H p) HCOL.out j
                            obtain ⟨dd, hdd⟩ : ∃ dd, dd = wrong (nowAt px H p) (colAt l1 best) j := ⟨_, rfl⟩
                            have hdd2 : dd = rd (nowAt px H p) j - rd (colAt l1 best) j := hdd
                            rw [← hdd] at hwr
                            have v3 : wrap64 (rd (nowAt px H p) j - rd (colAt l1 best) j) = dd := by rw [← hdd2]; exact wrap_in _ (by omega) (by omega)
                            have v4 : IntKind.i64.wrap (rd (nowAt px H p) j - rd (colAt l1 best) j) = dd := (i64_w _).trans v3
                            have HDD := Aside0.mk hdd
                            have HHB := Aside0.mk (stepUp_bnd HBN.out p wd l0.length (fun j => wrong_in (nowAt_px px H p) HCOL.out j) j)
                            obtain ⟨Hj, hHj⟩ : ∃ Hj, Hj = stepUp H p wd l0.length (wrong (nowAt px H p) (colAt l1 best)) j := ⟨_, rfl⟩
                            have HHJ := Aside0.mk hHj
                            rw [← hHj] at HS HHB
                            have hj3z : (j : Int) < 3 := by omega
                            clear hdd hdd2 hHj hr2 hbel hzl hz1 hpc HRW
                            go_wp2
                            go_quiet (fail)
                            go_upto_if 110 with (fail)
                            have HSq : Aside0 (HandR w wo (wr.drewN nq) N0 N1 (.slice (some ⟨g, 0, none⟩) l0.length c8) Hj l0.length (some an) cn (nowAt px H p) v87 (out ++ [best])) :=
                              ⟨Kd.S_drewN HS.out.1 nq, Kd.R_drewN HS.out.2.1 nq, Kd.R_drewN HS.out.2.2.1 nq, pw_below_drewN HS.out.2.2.2.1 nq, HS.out.2.2.2.2⟩
                            obtain ⟨m1, m2, m3⟩ := mod_facts p wd l0.length (by omega) HMOD.out hlt
                            rw [HXX.out] at m1 m2 m3
                            have M2 := Aside0.mk m2
                            have M3 := Aside0.mk m3
                            obtain ⟨H1, hH1⟩ : ∃ H1, H1 = (if xx + 1 < wd then addAt Hj (3 * (p + 1) + j) (7 * dd) else Hj) := ⟨_, rfl⟩
                            have HH1 := Aside0.mk hH1
                            have HBJ : Aside0 (∀ q, -99511627 ≤ Hj q ∧ Hj q ≤ 99511627) := ⟨fun q => by have := HHB.out q; constructor <;> omega⟩
                            generalize wr.drewN nq = wq at HSq ⊢
                            clear m2 m3 hy hz hq v3 v4 hcl3 hH1
                            go_cut [] from 91 to 203 (fun wx => Aside0 (HandR w wo wx N0 N1 (.slice (some ⟨g, 0, none⟩) l0.length c8) H1 l0.length (some an) cn (nowAt px H p) v87 (out ++ [best])))
                            case first =>
                              by_cases hx1 : xx + 1 < wd
                              · have ht := m1 hx1
                                obtain ⟨b, cpb, q1_, q2_, q3_, q4_⟩ := HandR.put HSq.out hN1o (by omega) (p + 1) j ht hlj
                                have Q4 := Aside0.mk q4_
                                obtain ⟨hb1, hb2⟩ := HBJ.out (3 * (p + 1) + j)
                                obtain ⟨hv, hhv⟩ : ∃ hv, hv = Hj (3 * (p + 1) + j) := ⟨_, rfl⟩
                                rw [← hhv] at q2_ hb1 hb2
                                have HHV := Aside0.mk hhv
                                clear q4_ hhv
                                go_wp2
                                go_region
                                all_goals
                                  go_wp2
                                  go_meet
                                  case rel =>
                                    rw [HH1.out, if_pos hx1]
                                    exact ⟨Q4.out (7 * dd) _ (by rw [HHV.out])⟩
                              · go_wp2
                                go_meet
                                case rel =>
                                  rw [HH1.out, if_neg hx1]
                                  exact HSq
                            case rest =>
                              have HS1 := hcut
                              clear HSq
                              have HB1 : Aside0 (∀ q, -99611627 ≤ H1 q ∧ H1 q ≤ 99611627) := ⟨fun q => by
                                have h1 := HBJ.out q
                                rw [HH1.out]
                                split
                                · unfold addAt; split <;> constructor <;> omega
                                · constructor <;> omega⟩
                              by_cases hge : l0.length ≤ p + wd
                              · go_wp2
                                go_roundg (3 - (j + 1) + 1)
                                case rel =>
                                  refine ⟨j + 1, by go_num, by omega, by omega, ⟨?_⟩⟩
                                  rw [stepUp, ← HHJ.out, ← HDD.out]
                                  have e : stepJ Hj p wd l0.length j dd = H1 := by simp only [stepJ, HXX.out]; rw [if_pos hge]; exact HH1.out.symm
                                  rw [e]
                                  exact HS1.out
                                case measure => omega
                              · have ht2 : p + wd < l0.length := by omega
                                obtain ⟨H2, hH2⟩ : ∃ H2, H2 = (if 0 < xx then addAt H1 (3 * (p + wd - 1) + j) (3 * dd) else H1) := ⟨_, rfl⟩
                                have HH2 := Aside0.mk hH2
                                have HB2 : Aside0 (∀ q, -99711627 ≤ H2 q ∧ H2 q ≤ 99711627) := ⟨fun q => by
                                  have h1 := HB1.out q
                                  rw [hH2]
                                  split
                                  · unfold addAt; split <;> constructor <;> omega
                                  · constructor <;> omega⟩
                                clear hH2
                                go_upto_if 136 with (fail)
                                go_cut [] from 91 to 203 (fun wx => Aside0 (HandR w wo wx N0 N1 (.slice (some ⟨g, 0, none⟩) l0.length c8) H2 l0.length (some an) cn (nowAt px H p) v87 (out ++ [best])))
                                case first =>
                                  by_cases hx0 : 0 < xx
                                  · have ht : p + wd - 1 < l0.length := by omega
                                    obtain ⟨b, cpb, q1_, q2_, q3_, q4_⟩ := HandR.put HS1.out hN1o (by omega) (p + wd - 1) j ht hlj
                                    have Q4 := Aside0.mk q4_
                                    obtain ⟨hb1, hb2⟩ := HB1.out (3 * (p + wd - 1) + j)
                                    obtain ⟨hv, hhv⟩ : ∃ hv, hv = H1 (3 * (p + wd - 1) + j) := ⟨_, rfl⟩
                                    rw [← hhv] at q2_ hb1 hb2
                                    have HHV := Aside0.mk hhv
                                    obtain ⟨tt, htt⟩ : ∃ tt : Nat, tt = p + wd - 1 := ⟨_, rfl⟩
                                    rw [← htt] at q1_ ht
                                    have htz : (p : Int) + (wd : Int) - 1 = (tt : Int) := by omega
                                    have HTT := Aside0.mk htt
                                    clear q4_ hhv htt
                                    go_wp2
                                    go_region
                                    all_goals
                                      go_wp2
                                      go_meet
                                      case rel =>
                                        rw [HH2.out, if_pos hx0]
                                        exact ⟨Q4.out (3 * dd) _ (by rw [HHV.out])⟩
                                  · go_wp2
                                    go_meet
                                    case rel =>
                                      rw [HH2.out, if_neg hx0]
                                      exact HS1
                                case rest =>
                                  have HS2 := hcut
                                  obtain ⟨H3, hH3⟩ : ∃ H3, H3 = addAt H2 (3 * (p + wd) + j) (5 * dd) := ⟨_, rfl⟩
                                  have HH3 := Aside0.mk hH3
                                  have HB3 : Aside0 (∀ q, -99811627 ≤ H3 q ∧ H3 q ≤ 99811627) := ⟨fun q => by
                                    have h1 := HB2.out q
                                    rw [hH3]
                                    unfold addAt; split <;> constructor <;> omega⟩
                                  clear hH3 HS1
                                  go_upto_region 29 with (fail)
                                  go_cut [] from 91 to 203 (fun wx => Aside0 (HandR w wo wx N0 N1 (.slice (some ⟨g, 0, none⟩) l0.length c8) H3 l0.length (some an) cn (nowAt px H p) v87 (out ++ [best])))
                                  case first =>
                                    obtain ⟨b, cpb, q1_, q2_, q3_, q4_⟩ := HandR.put HS2.out hN1o (by omega) (p + wd) j ht2 hlj
                                    have Q4 := Aside0.mk q4_
                                    obtain ⟨hb1, hb2⟩ := HB2.out (3 * (p + wd) + j)
                                    obtain ⟨hv, hhv⟩ : ∃ hv, hv = H2 (3 * (p + wd) + j) := ⟨_, rfl⟩
                                    rw [← hhv] at q2_ hb1 hb2
                                    have HHV := Aside0.mk hhv
                                    clear q4_ hhv
                                    go_wp2
                                    go_region
                                    all_goals
                                      go_wp2
                                      go_meet
                                      case rel =>
                                        rw [HH3.out]
                                        exact ⟨Q4.out (5 * dd) _ (by rw [HHV.out])⟩
                                  case rest =>
                                    have HS3 := hcut
                                    clear HS2
                                    by_cases hx1 : xx + 1 < wd
                                    · have ht3 := M3.out ht2 hx1
                                      obtain ⟨b, cpb, q1_, q2_, q3_, q4_⟩ := HandR.put HS3.out hN1o (by omega) (p + wd + 1) j ht3 hlj
                                      have Q4 := Aside0.mk q4_
                                      obtain ⟨hb1, hb2⟩ := HB3.out (3 * (p + wd + 1) + j)
                                      obtain ⟨hv, hhv⟩ : ∃ hv, hv = H3 (3 * (p + wd + 1) + j) := ⟨_, rfl⟩
                                      rw [← hhv] at q2_ hb1 hb2
                                      have HHV := Aside0.mk hhv
                                      clear q4_ hhv
                                      go_wp2
                                      go_region
                                      all_goals
                                        go_wp2
                                        go_roundg (3 - (j + 1) + 1)
                                        case rel =>
                                          refine ⟨j + 1, by go_num, by omega, by omega, ⟨?_⟩⟩
                                          rw [stepUp, ← HHJ.out, ← HDD.out]
                                          have e : stepJ Hj p wd l0.length j dd = addAt H3 (3 * (p + wd + 1) + j) dd := by
                                            simp only [stepJ, HXX.out]
                                            rw [if_neg hge, if_pos hx1, HH3.out, HH2.out, HH1.out, if_pos hx1]
                                          rw [e]
                                          exact Q4.out dd _ (by rw [HHV.out])
                                        case measure => omega
                                    · go_wp2
                                      go_roundg (3 - (j + 1) + 1)
                                      case rel =>
                                        refine ⟨j + 1, by go_num, by omega, by omega, ⟨?_⟩⟩
                                        rw [stepUp, ← HHJ.out, ← HDD.out]
                                        have e : stepJ Hj p wd l0.length j dd = H3 := by
                                          simp only [stepJ, HXX.out]
                                          rw [if_neg hge, if_neg hx1, HH3.out, HH2.out, HH1.out, if_neg hx1]
                                        rw [e]
                                        exact HS3.out
                                      case measure => omega
                          · obtain rfl : j = 3 := by omega
                            go_wp2
                            go_roundg (l0.length - (p + 1) + 1)
                            case rel =>
                              obtain ⟨z1, z2, z3, z4, z5⟩ := HS.out
                              have hst := stepUp_three H p wd l0.length (wrong (nowAt px H p) (colAt l1 best)) (by omega) HMOD.out hlt
                              rw [hst] at z1
                              refine ⟨p + 1, _, out ++ [best], by go_num, by omega, by omega, ⟨z1⟩, ⟨(Bnd.step HBN.out p wd l0.length _ (fun j => wrong_in (nowAt_px px H p) HCOL.out j)).more (by omega)⟩, ⟨z3⟩, ⟨?_⟩, ⟨by simp [HL.out]⟩, ⟨z4⟩, ⟨z5⟩⟩
                              have hfin := HR.out
                              rw [List.drop_eq_getElem_cons hlt, ← HPXE.out] at hfin
                              simp only [ditGo] at hfin
                              rw [← HBEST.out] at hfin
                              rw [← hfin]
                              simp
                            case measure => omega
                  · obtain rfl : p = l0.length := by omega
                    go_wp2
                    have := HR.out
                    rw [List.drop_length] at this
                    simp only [ditGo, List.append_nil] at this
                    subst this
                    go_ret
                    exact ⟨_, rfl, Kd.R_mono HO.out (fun _ _ => trivial), HBw.out⟩
          · have hmb : ((l0.length : Int) % (wd : Int) != 0) = true := by
              have : (l0.length : Int) % (wd : Int) = ((l0.length % wd : Nat) : Int) := by simp
              rw [this]; simp; omega
            go_wp2
            have := HH.out
            rw [ditM_not (by rw [HOK.out]; simp [hmod])] at this
            subst this
            go_ret
            exact ⟨_, rfl, Kd.R_drewN HO.out _, HB4.out⟩
  · cases h

end Go.Proofs.Ytcjjmfpkhhdmlaa.G

namespace Go.Proofs.Ytcjjmfpkhhdmlaa.G
open Go.RowKit Go.Proofs.YtcjjmfpkhhdmlaaW.PrintWords Go.Proofs.YtcjjmfpkhhdmlaaW.PrintLast Go.Proofs.YtcjjmfpkhhdmlaaW.PrintMore
attribute [local go_sem] max2_int min2_int max_two min_two max_three min_three max_four min_four   -- for this text's walks alone
set_option linter.unusedVariables false
set_option linter.unusedSimpArgs false

/-! ### laws_toIntS: function 16 -/
def laws_toIntS.l0 : Nat → List Int → List Int → Int → Option (List Int)
  | 0, _, _, _ => none
  | k + 1, x0, x3, x4 => if x4 < (x0.length : Int) then (if 0 ≤ x4 then (if x4 < (x3.length : Int) then (laws_toIntS.l0 k x0 (x3.set (x4 : Int).toNat (rd x0 x4)) (wrap64 (x4 + 1))) else (none)) else (none)) else (some x3)
def laws_toIntS.f (k : Nat) (l0 : List Int) : Option (List Int) := if 0 ≤ (l0.length : Int) then (if ((l0.length : Int) : Int).toNat ≤ 35184372088832 then (laws_toIntS.l0 k l0 (List.replicate ((l0.length : Int) : Int).toNat 0) 0) else (none)) else (none)
theorem laws_toIntS.mono_l : ∀ k, (∀ y0 y1 y2, LeO (laws_toIntS.l0 k y0 y1 y2) (laws_toIntS.l0 (k + 1) y0 y1 y2))
  | 0 => fun _ _ _ r h => by simp [laws_toIntS.l0] at h
  | k + 1 => by
    have ih0 := laws_toIntS.mono_l k
    · intro y0 y1 y2
      unfold laws_toIntS.l0
      repeat' first
      | (with_reducible exact ih0 _ _ _)
      | (with_reducible exact LeO.refl _)
      | (with_reducible exact LeO.none _)
      | (with_reducible refine LeO.ite ?_ ?_)
      | (with_reducible refine LeO.bind ?_ (fun _ => ?_))
      | exact ih0 _ _ _
      | exact LeO.none _
      | refine LeO.ite ?_ ?_
      | refine LeO.bind ?_ (fun _ => ?_)
theorem laws_toIntS.mono : ∀ a0 k, LeO (laws_toIntS.f k a0) (laws_toIntS.f (k + 1) a0) := by
  intro a0 k
  have ih0 := laws_toIntS.mono_l k
  unfold laws_toIntS.f
  repeat' first
      | (with_reducible exact ih0 _ _ _)
      | (with_reducible exact LeO.refl _)
      | (with_reducible exact LeO.none _)
      | (with_reducible refine LeO.ite ?_ ?_)
      | (with_reducible refine LeO.bind ?_ (fun _ => ?_))
      | exact ih0 _ _ _
      | exact LeO.none _
      | refine LeO.ite ?_ ?_
      | refine LeO.bind ?_ (fun _ => ?_)
set_option maxHeartbeats 8000000 in
set_option maxRecDepth 100000 in
theorem laws_toIntS.calls (k : Nat) (A0 : Option Addr) (c0 : Nat) (l0 : List Int) (r : List Int) (w : World) (hr0 : Kd.C (Kd.int .i64) w A0 l0.length l0) (hc0 : l0.length ≤ c0) (h : laws_toIntS.f k l0 = some r) :
    Calls Try.prog 16 #[.slice A0 l0.length c0] w fun e w' => ∃ v0_ : Value, e = .returned (v0_) ∧ Kd.R (Kd.int .i64) 3 w' w.heap.size (fun _ => True) v0_ r ∧ Below w.heap.size w w' := by
  have HR0 := Aside0.mk hr0
  have HC0 := Aside0.mk hc0
  clear hr0 hc0
  have HB := Aside0.mk (Below.refl w.heap.size w)
  have H : (if 0 ≤ (l0.length : Int) then (if ((l0.length : Int) : Int).toNat ≤ 35184372088832 then (laws_toIntS.l0 k l0 (List.replicate ((l0.length : Int) : Int).toNat 0) 0) else (none)) else (none)) = some r := h
  clear h
  by_cases c2 : 0 ≤ (l0.length : Int)
  · rw [if_pos c2] at H
    have c2b0 := eq_true c2
    have c2b1 : decide (0 ≤ (l0.length : Int)) = true := decide_eq_true c2
    clear c2
    by_cases c3 : ((l0.length : Int) : Int).toNat ≤ 35184372088832
    · rw [if_pos c3] at H
      have c3b0 := eq_true c3
      have c3b1 : decide (((l0.length : Int) : Int).toNat ≤ 35184372088832) = true := decide_eq_true c3
      clear c3
      obtain ⟨y138, hy138⟩ : ∃ y_ : List Int, y_ = (List.replicate ((l0.length : Int) : Int).toNat 0) := ⟨_, rfl⟩
      replace H : (laws_toIntS.l0 k l0 y138 0) = some r := by first | (rw [hy138]; with_reducible exact H) | (have H2_ := (Option.bind_some _ _).symm.trans H; rw [hy138]; with_reducible exact H2_) | (have H2_ := (Option.bind_some _ _).symm.trans H; with_reducible exact H2_) | with_reducible exact H | (rw [hy138]; exact H) | exact H
      have Ny138 := Aside0.mk hy138
      clear hy138
      have H' := Aside0.mk H
      clear H
      go_enter Try.func16, Try.ntmps16
      go_wp2_with (first | ((with_reducible refine gate_dst (N := 7) rfl ?_); refine Kd.R_make (Kd.int .i64) _ 3 rfl (N := 7) rfl 22 _ _ rfl (l0.length : Int) rfl rfl Try.underlying22 (.int .i64 0) 8 info3 rfl (by decide) (by omega) 0 (ok := fun _ => True) (okp := fun _ => True) rfl (fun _ hk => hk) trivial (of_decide_eq_true (by first | (with_reducible assumption) | assumption)) (Nat.le_trans (Nat.mul_le_mul_right _ (of_decide_eq_true (by first | (with_reducible assumption) | assumption) : (l0.length : Int).toNat ≤ 35184372088832)) (by omega)) (Below.refl _ _) (Nat.le_refl _) ?_; intro v139 w4 ho5 hb hg_ hnew_; clear hg_ hnew_; (first | rw [← Ny138.out] at ho5 | (simp only [Int.reduceToNat] at ho5; rw [← Ny138.out] at ho5)); have n0_ := Aside0.mk (Kd.R_lower ho5 (below_size (by repeat (first | (with_reducible first | exact HB.out | apply below_alloc | apply pw_below_drewN | apply below_drew1) | exact HB.out)))); have n1_ := Aside0.mk (below_step (by repeat (first | (with_reducible first | exact HB.out | apply below_alloc | apply pw_below_drewN | apply below_drew1) | exact HB.out)) hb); clear HB; have HO140 := n0_; have HB := n1_; clear n0_ n1_; clear hb ho5))
      go_loopg [4] k (fun kq v4 w' => ∃ (x3_1 : List Int) (x4_1 : Int), v4 = .int .i64 x4_1 ∧ Aside0 (laws_toIntS.l0 kq l0 x3_1 x4_1 = some r) ∧ Aside0 (kq ≤ k) ∧ Aside0 (Kd.R (Kd.int .i64) 3 w' w.heap.size (fun _ => True) v139 x3_1) ∧ Aside0 (Below w.heap.size w w'))
      case atStart => exact ⟨(y138), (0), (by first | rfl | (simp; done) | (simp [*]; done)), H', ⟨Nat.le_refl _⟩, ⟨by (with_reducible repeat (first | apply Kd.R_alloc | apply Kd.R_drewN | apply Kd.R_drew)); exact HO140.out⟩, ⟨by repeat (first | (with_reducible first | exact HB.out | apply below_alloc | apply pw_below_drewN | apply below_drew1) | exact HB.out)⟩⟩
      case round =>
        clear H'
        try clear c1
        try clear c2
        try clear c2b0
        try clear c2b1
        try clear p2
        try clear c3
        try clear c3b0
        try clear c3b1
        obtain ⟨x3_1, x4_1, rfl, HA, HK1, HO_3, HB⟩ := hrel
        cases gk with
        | zero => exact absurd HA.out (by simp [laws_toIntS.l0])
        | succ k1 =>
          have H := HA.out
          clear HA
          simp only [laws_toIntS.l0] at H
          by_cases c6 : x4_1 < (l0.length : Int)
          · rw [if_pos c6] at H
            have c6b0 : decide (x4_1 < (l0.length : Int)) = true := decide_eq_true c6
            clear c6
            by_cases c7 : 0 ≤ x4_1
            · rw [if_pos c7] at H
              have c7b0 : decide (0 ≤ x4_1) = true := decide_eq_true c7
              clear c7
              by_cases c8 : x4_1 < (x3_1.length : Int)
              · rw [if_pos c8] at H
                have c8b0 : decide (x4_1 < (x3_1.length : Int)) = true := decide_eq_true c8
                clear c8
                obtain ⟨y142, hy142⟩ : ∃ y_ : List Int, y_ = (x3_1.set (x4_1 : Int).toNat (rd l0 x4_1)) := ⟨_, rfl⟩
                replace H : (laws_toIntS.l0 k1 l0 y142 (wrap64 (x4_1 + 1))) = some r := by first | (rw [hy142]; with_reducible exact H) | (have H2_ := (Option.bind_some _ _).symm.trans H; rw [hy142]; with_reducible exact H2_) | (have H2_ := (Option.bind_some _ _).symm.trans H; with_reducible exact H2_) | with_reducible exact H | (rw [hy142]; exact H) | exact H
                have Ny142 := Aside0.mk hy142
                clear hy142
                have H' := Aside0.mk H
                clear H
                have p141 : 0 ≤ (x4_1 : Int) := of_decide_eq_true (by first | (with_reducible assumption) | assumption)
                have q141 : x4_1 < (l0.length : Int) := of_decide_eq_true (by first | (with_reducible assumption) | assumption)
                obtain ⟨ad141, e141, hx141_0⟩ := Kd.at_int HR0.out x4_1 p141 q141
                cases e141
                replace hx141_0 := (HB.out.cell (World.block_lt_of_cell? w _ hx141_0)).trans hx141_0
                replace p141 := eq_true p141
                replace q141 := eq_true q141
                have p9 : 0 ≤ (x4_1 : Int) := of_decide_eq_true (by first | (with_reducible assumption) | assumption)
                have q9 : (x4_1 : Int) < ((x3_1.length : Int) : Int) := of_decide_eq_true (by first | (with_reducible assumption) | assumption)
                obtain ⟨go9, co9, eo9, gb9, gl9, cl9, HG9⟩ := Kd.R_form HO_3.out (by omega)
                (first | cases eo9 | (injection eo9 with ea_ en_ ec_; (first | subst ea_ | (injection ea_ with ea_; subst ea_)); subst ec_; clear en_))
                have GB9 := Aside0.mk gb9
                have GG9 := Aside0.mk HG9
                clear gb9 gl9 HG9
                obtain ⟨hx9_0, hf9_0⟩ := Kd.R_celln 0 HO_3.out (x4_1 : Int) p9 q9
                replace p9 := eq_true p9
                replace q9 := eq_true q9
                have HP10 := Kd.R_putg HO_3.out (x4_1 : Int) (rd l0 x4_1)
                go_wp2_with (first | ((with_reducible refine gate_store (t := 3) (p := 20) rfl ?_); refine store_event (t := 3) (p := 20) (v := ?vo_w11) (w1 := (wr.setCell ⟨go9, (x4_1 : Int).toNat, none⟩ (.int .i64 (rd l0 x4_1)))) ?hg ?ho ?hn ?hr ?_; (case ho => rfl); (case hg => rfl); (case hn => rfl); (case hr => first | (go_simp; done) | (go_simp; rfl)); intro w11 hw; have hg : wr.grownBy w11 (some go9) := (by rw [hw]; exact HP10.2); have hp_ : Kd.R (Kd.int .i64) 3 w11 w.heap.size (fun _ => True) (.slice (some ⟨go9, 0, none⟩) x3_1.length co9) y142 := (by rw [hw, Ny142.out]; exact HP10.1); clear HP10; have n0_ := Aside0.mk (hp_); have n1_ := Aside0.mk ((by rw [hw]; exact below_set (HB.out) GB9.out : Below w.heap.size w w11)); clear HO_3; clear HB; have HO_3 := n0_; have HB := n1_; clear n0_ n1_; clear hg hw hp_))
                go_roundg k1
                case measure => have := HK1.out; omega
                case rel => exact ⟨(y142), (wrap64 (x4_1 + 1)), (by first | rfl | (simp; done) | (simp [*]; done)), H', ⟨by have := HK1.out; omega⟩, ⟨by (with_reducible repeat (first | apply Kd.R_alloc | apply Kd.R_drewN | apply Kd.R_drew)); exact HO_3.out⟩, ⟨by repeat (first | (with_reducible first | exact HB.out | apply below_alloc | apply pw_below_drewN | apply below_drew1) | exact HB.out)⟩⟩
              · rw [if_neg c8] at H
                exact absurd H (by simp)
            · rw [if_neg c7] at H
              exact absurd H (by simp)
          · rw [if_neg c6] at H
            have c6b0 : decide (x4_1 < (l0.length : Int)) = false := decide_eq_false c6
            clear c6
            obtain rfl := Option.some.inj H
            go_wp2
            go_ret
            exact ⟨_, by first | rfl | (simp [errW_none, errW_some] <;> rfl) | (simp [*, errW_none, errW_some] <;> rfl), by (with_reducible repeat (first | apply Kd.R_alloc | apply Kd.R_drewN | apply Kd.R_drew)); exact HO_3.out, by repeat (first | (with_reducible first | exact HB.out | apply below_alloc | apply pw_below_drewN | apply below_drew1) | exact HB.out)⟩
    · rw [if_neg c3] at H
      exact absurd H (by simp)
  · rw [if_neg c2] at H
    exact absurd H (by simp)

theorem laws_toIntS.go (l : List Int) (hm : l.length ≤ 35184372088832) (d : Nat) : ∀ (i k : Nat), l.length - i = d → i ≤ l.length → d < k →
    laws_toIntS.l0 k l (l.take i ++ List.replicate (l.length - i) 0) (i : Int) = some l := by
  induction d with
  | zero =>
    intro i k hd hi' hk
    obtain ⟨k, rfl⟩ : ∃ m, k = m + 1 := ⟨k - 1, by omega⟩
    obtain rfl : i = l.length := by omega
    simp only [laws_toIntS.l0]
    rw [if_neg (by omega)]
    simp
  | succ d ih =>
    intro i k hd hi' hk
    obtain ⟨k, rfl⟩ : ∃ m, k = m + 1 := ⟨k - 1, by omega⟩
    have hlt : i < l.length := by omega
    simp only [laws_toIntS.l0]
    rw [if_pos (by omega), if_pos (by omega), if_pos (by simp; omega)]
    have hrd : rd l (i : Int) = l[i] := by simp [rd, hlt]
    have hw : wrap64 ((i : Int) + 1) = ((i + 1 : Nat) : Int) := by unfold wrap64; omega
    rw [hrd, hw]
    have hs : (l.take i ++ List.replicate (l.length - i) 0).set ((i : Int)).toNat l[i] = l.take (i + 1) ++ List.replicate (l.length - (i + 1)) 0 := by
      rw [Int.toNat_natCast, show l.length - i = (l.length - (i + 1)) + 1 by omega, List.replicate_succ, List.take_succ_eq_append_getElem hlt, List.append_assoc]
      rw [List.set_append_right _ _ (by simp; omega)]
      simp [Nat.min_eq_left (Nat.le_of_lt hlt)]
    rw [hs, ih (i + 1) k (by omega) (by omega) (by omega)]
theorem laws_toIntS.ev (l : List Int) (hm : l.length ≤ 35184372088832) : ∃ k, laws_toIntS.f k l = some l :=
  ⟨l.length + 1, by unfold laws_toIntS.f; rw [if_pos (by omega), if_pos (by omega)]; have := laws_toIntS.go l hm l.length 0 (l.length + 1) (by omega) (by omega) (by omega); simpa using this⟩

theorem laws_toIntS.E (l : List Int) (hm : l.length ≤ 1048576) : Ev (fun k => laws_toIntS.f k l) l := by
  obtain ⟨k, h⟩ := laws_toIntS.ev l (by omega)
  exact Ev.of (fun k => laws_toIntS.mono _ k) h

end Go.Proofs.Ytcjjmfpkhhdmlaa.G

namespace Go.Proofs.Ytcjjmfpkhhdmlaa.G
open Go.RowKit Go.Proofs.YtcjjmfpkhhdmlaaW.PrintWords Go.Proofs.YtcjjmfpkhhdmlaaW.PrintLast Go.Proofs.YtcjjmfpkhhdmlaaW.PrintMore
attribute [local go_sem] max2_int min2_int max_two min_two max_three min_three max_four min_four   -- for this text's walks alone
set_option linter.unusedVariables false
set_option linter.unusedSimpArgs false

/-! ### laws_toIntSS: function 37 -/
/-- rows that fit -/
def fitSS (l : List (List Int)) : Bool := decide (l.length ≤ 11728124029610) && l.all fun x => decide (x.length ≤ 35184372088832)
def laws_toIntSS.f (l0 : List (List Int)) : Option (List (List Int)) := if fitSS l0 then some l0 else none
def SSI (w : World) (base : Nat) (v : Value) (xs : List (List Int)) : Prop := Kd.S (Kd.slice 3 (Kd.int .i64)) 22 w base (fun _ => True) v xs
theorem laws_toIntSS.calls (A0 : Option Addr) (c0 : Nat) (l0 : List (List Int)) (r : List (List Int)) (w : World) (hr0 : Kd.C (Kd.slice 3 (Kd.int .i64)) w A0 l0.length l0) (hc0 : l0.length ≤ c0) (h : laws_toIntSS.f l0 = some r) :
    Calls Try.prog 37 #[.slice A0 l0.length c0] w fun e w' => ∃ v0_ : Value, e = .returned (v0_) ∧ Kd.S (Kd.slice 3 (Kd.int .i64)) 22 w' w.heap.size (fun _ => True) v0_ r ∧ Below w.heap.size w w' := by
  unfold laws_toIntSS.f at h
  split at h
  · rename_i hf
    obtain rfl := Option.some.inj h
    clear h
    unfold fitSS at hf
    rw [Bool.and_eq_true, decide_eq_true_eq, List.all_eq_true] at hf
    obtain ⟨hm, hfit0⟩ := hf
    have hfit := Aside0.mk hfit0
    clear hfit0
    have HR0 := Aside0.mk hr0
    have HC0 := Aside0.mk hc0
    clear hr0 hc0
    go_enter Try.func37, Try.ntmps37
    go_wp2_with (first | ((with_reducible refine gate_dst (N := 7) rfl ?_); refine Kd.S_make (Kd.slice 3 (Kd.int .i64)) _ 22 rfl (N := 7) rfl 36 _ _ rfl (l0.length : Int) rfl rfl Try.underlying36 (.slice none 0 0) 24 info22 rfl (by decide) (by omega) [] (ok := fun _ => True) (okp := fun _ => True) ⟨_, rfl, Kd.R_nil _ _ _ _ _⟩ (fun _ hk => hk) trivial (by omega) (by omega) (Below.refl _ _) (Nat.le_refl _) ?_; intro v113 w4 ho5 hb hg_ hnew_; clear hg_ hnew_; have HO := Aside0.mk ho5; have HB := Aside0.mk hb; clear ho5 hb))
    go_loopw [4] (fun v4 w' => ∃ i : Nat, v4 = .int .i64 i ∧ i ≤ l0.length ∧ Aside0 (SSI w' w.heap.size v113 (l0.take i ++ List.replicate (l0.length - i) [])) ∧ Aside0 (Below w.heap.size w w')) (fun v4 w' => l0.length - (intOf v4).toNat)
    case atStart => exact ⟨0, rfl, by omega, ⟨by simpa [SSI] using HO.out⟩, HB⟩
    case round =>
      clear HO HB
      obtain ⟨i, rfl, hi, HO, HB⟩ := hrel
      by_cases hlt : i < l0.length
      · obtain ⟨ad, A1, c1, e1, hx, hl, hi1⟩ := at_L3 HR0.out (i : Int) (by omega) (by omega)
        cases e1
        rw [Int.toNat_natCast] at hx
        replace hx := (HB.out.cell (World.block_lt_of_cell? w _ hx)).trans hx
        have hgl : rd_L3 l0 i = l0[i] := by simp [rd_L3, hlt]
        have HGL := Aside0.mk hgl
        obtain ⟨k, hk⟩ := laws_toIntS.ev (rd_L3 l0 i) (by rw [hgl]; exact of_decide_eq_true (hfit.out _ (List.getElem_mem _)))
        have HK := Aside0.mk hk
        have HR1 := Aside0.mk hi1
        have HC1 := Aside0.mk hl
        have hln : (l0.take i ++ List.replicate (l0.length - i) ([] : List Int)).length = l0.length := by simp; omega
        have HLN := Aside0.mk hln
        clear hi1 hl hk hgl
        obtain ⟨g, cap, e2, hgb, hgl, _⟩ := Kd.S_form HO.out (by omega)
        rw [hln] at e2
        subst e2
        have HGB := Aside0.mk hgb
        clear hln hgb hgl
        go_wp2_with (first | (go_at_call 16; (with_reducible refine (laws_toIntS.calls k _ _ (rd_L3 l0 i) _ _ ?side1 ?side2 HK.out).mono ?_); (case side1 => exact Kd.C_below HR1.out HB.out); (case side2 => exact HC1.out); rintro e w11 ⟨v114, rfl, ho0, hb⟩; obtain ⟨A2, c2, e3⟩ := Kd.R_slice ho0; subst e3; have HO2 := Aside0.mk ho0; have HB2 := Aside0.mk hb; have HS2 := Aside0.mk (Kd.S_below HO.out hb); clear ho0 hb; obtain ⟨⟨u, hxc⟩, hxf⟩ := S_cell rfl HS2.out [] (i : Int) (by omega) (by omega); rw [Int.toNat_natCast] at hxc hxf))
        go_roundw
        case rel =>
          refine ⟨i + 1, by go_num, by omega, ⟨?_⟩, ⟨below_set (HB.out.trans (HB2.out.mono (HB.out.size))) HGB.out⟩⟩
          have hp := S_put1 (x' := l0[i]) rfl HO.out HB2.out [] (i : Int) (by omega) (by omega) (Kd.M_row (Kd.R_mono (Kd.R_lower (Kd.R_bound (HGL.out ▸ HO2.out)) HB.out.size) (fun k hk => hk.2.1)))
          rw [Int.toNat_natCast, fill_set _ _ _ hlt] at hp
          rw [HGL.out]
          exact hp
        case measure => simp [intOf]; omega
      · obtain rfl : i = l0.length := by omega
        go_wp2
        go_ret
        exact ⟨_, rfl, by simpa [SSI] using HO.out, HB.out⟩
  · cases h
theorem laws_toIntSS.val (l0 : List (List Int)) (h1 : l0.length ≤ 1048576) (h2 : ∀ x ∈ l0, x.length ≤ 1048576) : laws_toIntSS.f l0 = some l0 := by
  unfold laws_toIntSS.f
  rw [if_pos]
  simp only [fitSS, Bool.and_eq_true, decide_eq_true_eq, List.all_eq_true]
  exact ⟨by omega, fun x hx => by have := h2 x hx; omega⟩

end Go.Proofs.Ytcjjmfpkhhdmlaa.G

namespace Go.Proofs.Ytcjjmfpkhhdmlaa.G
open Go.RowKit Go.Proofs.YtcjjmfpkhhdmlaaW.PrintWords Go.Proofs.YtcjjmfpkhhdmlaaW.PrintLast Go.Proofs.YtcjjmfpkhhdmlaaW.PrintMore
attribute [local go_sem] max2_int min2_int max_two min_two max_three min_three max_four min_four   -- for this text's walks alone
set_option linter.unusedVariables false
set_option linter.unusedSimpArgs false

/-! ### impl_within: function 81 -/
def impl_within.f (a0 : Int) (a1 : Int) (a2 : Int) : Option (Bool) := if a0 ≥ a1 then (some (decide (a0 ≤ a2))) else (some false)
set_option maxHeartbeats 8000000 in
set_option maxRecDepth 100000 in
theorem impl_within.calls (a0 : Int) (a1 : Int) (a2 : Int) (r : Bool) (w : World) (h : impl_within.f a0 a1 a2 = some r) :
    Calls Try.prog 81 #[.int .i64 a0, .int .i64 a1, .int .i64 a2] w fun e w' => e = .returned (.bool r) ∧ Drawn0 w w' := by
  have H : (if a0 ≥ a1 then (some (decide (a0 ≤ a2))) else (some false)) = some r := h
  clear h
  by_cases c4 : a0 ≥ a1
  · rw [if_pos c4] at H
    have c4b0 : decide (a1 ≤ a0) = true := decide_eq_true c4
    clear c4
    obtain rfl := Option.some.inj H
    go_enter Try.func81, Try.ntmps81
    go_wp2
    go_ret
    exact ⟨by first | rfl | (simp; done) | (simp [*]; done), by repeat (first | exact Drawn0.refl _ | apply Drawn0.step)⟩
  · rw [if_neg c4] at H
    have c4b0 : decide (a1 ≤ a0) = false := decide_eq_false c4
    clear c4
    obtain rfl := Option.some.inj H
    go_enter Try.func81, Try.ntmps81
    go_wp2
    go_ret
    exact ⟨by first | rfl | (simp; done) | (simp [*]; done), by repeat (first | exact Drawn0.refl _ | apply Drawn0.step)⟩

theorem impl_within.val (x lo hi : Int) : impl_within.f x lo hi = some (decide (lo ≤ x) && decide (x ≤ hi)) := by
  unfold impl_within.f
  by_cases h1 : x ≥ lo
  · rw [if_pos h1]; simp [ge_iff_le.mp h1]
  · rw [if_neg h1]; have : ¬ lo ≤ x := h1; simp [this]

end Go.Proofs.Ytcjjmfpkhhdmlaa.G

namespace Go.Proofs.Ytcjjmfpkhhdmlaa.G
open Go.RowKit Go.Proofs.YtcjjmfpkhhdmlaaW.PrintWords Go.Proofs.YtcjjmfpkhhdmlaaW.PrintLast Go.Proofs.YtcjjmfpkhhdmlaaW.PrintMore
attribute [local go_sem] max2_int min2_int max_two min_two max_three min_three max_four min_four   -- for this text's walks alone
set_option linter.unusedVariables false
set_option linter.unusedSimpArgs false

/-! ### impl_allWithin: function 94 -/
def impl_allWithin.l0 : Nat → Int → Int → List Int → Int → Int → Option (Bool)
  | 0, _, _, _, _, _ => none
  | k + 1, x1, x2, x9, x10, x11 => if x11 < x10 then (if 0 ≤ x11 then (if x11 < (x9.length : Int) then ((impl_within.f (rd x9 x11) x1 x2).bind fun t149 => (if t149 = true then (impl_allWithin.l0 k x1 x2 x9 x10 (wrap64 (x11 + 1))) else (some false))) else (none)) else (none)) else (some true)
def impl_allWithin.f (k : Nat) (l0 : List Int) (a1 : Int) (a2 : Int) : Option (Bool) := impl_allWithin.l0 k a1 a2 l0 (l0.length : Int) 0
theorem impl_allWithin.mono_l : ∀ k, (∀ y0 y1 y2 y3 y4, LeO (impl_allWithin.l0 k y0 y1 y2 y3 y4) (impl_allWithin.l0 (k + 1) y0 y1 y2 y3 y4))
  | 0 => fun _ _ _ _ _ r h => by simp [impl_allWithin.l0] at h
  | k + 1 => by
    have ih0 := impl_allWithin.mono_l k
    · intro y0 y1 y2 y3 y4
      unfold impl_allWithin.l0
      repeat' first
      | (with_reducible exact ih0 _ _ _ _ _)
      | (with_reducible exact LeO.refl _)
      | (with_reducible exact LeO.none _)
      | (with_reducible refine LeO.ite ?_ ?_)
      | (with_reducible refine LeO.bind ?_ (fun _ => ?_))
      | exact ih0 _ _ _ _ _
      | exact LeO.none _
      | refine LeO.ite ?_ ?_
      | refine LeO.bind ?_ (fun _ => ?_)
theorem impl_allWithin.mono : ∀ a0 a1 a2 k, LeO (impl_allWithin.f k a0 a1 a2) (impl_allWithin.f (k + 1) a0 a1 a2) := by
  intro a0 a1 a2 k
  have ih0 := impl_allWithin.mono_l k
  unfold impl_allWithin.f
  repeat' first
      | (with_reducible exact ih0 _ _ _ _ _)
      | (with_reducible exact LeO.refl _)
      | (with_reducible exact LeO.none _)
      | (with_reducible refine LeO.ite ?_ ?_)
      | (with_reducible refine LeO.bind ?_ (fun _ => ?_))
      | exact ih0 _ _ _ _ _
      | exact LeO.none _
      | refine LeO.ite ?_ ?_
      | refine LeO.bind ?_ (fun _ => ?_)
set_option maxHeartbeats 8000000 in
set_option maxRecDepth 100000 in
theorem impl_allWithin.calls (k : Nat) (A0 : Option Addr) (c0 : Nat) (l0 : List Int) (a1 : Int) (a2 : Int) (r : Bool) (w : World) (hr0 : Kd.C (Kd.int .i64) w A0 l0.length l0) (hc0 : l0.length ≤ c0) (h : impl_allWithin.f k l0 a1 a2 = some r) :
    Calls Try.prog 94 #[.slice A0 l0.length c0, .int .i64 a1, .int .i64 a2] w fun e w' => e = .returned (.bool r) ∧ Drawn0 w w' := by
  have HR0 := Aside0.mk hr0
  have HC0 := Aside0.mk hc0
  clear hr0 hc0
  have H : (impl_allWithin.l0 k a1 a2 l0 (l0.length : Int) 0) = some r := h
  clear h
  have H' := Aside0.mk H
  clear H
  go_enter Try.func94, Try.ntmps94
  go_wp2
  go_loopg [11] k (fun kq v11 w' => ∃ (x11_1 : Int), v11 = .int .i64 x11_1 ∧ Aside0 (impl_allWithin.l0 kq a1 a2 l0 (l0.length : Int) x11_1 = some r) ∧ Aside0 (kq ≤ k) ∧ Drawn0 w w')
  case atStart => exact ⟨(0), (by first | rfl | (simp; done) | (simp [*]; done)), H', ⟨Nat.le_refl _⟩, by repeat (first | exact Drawn0.refl _ | apply Drawn0.step)⟩
  case round =>
    clear H'
    try clear p2
    obtain ⟨x11_1, rfl, HA, HK1, ⟨m1, rfl⟩⟩ := hrel
    cases gk with
    | zero => exact absurd HA.out (by simp [impl_allWithin.l0])
    | succ k1 =>
      have H := HA.out
      clear HA
      simp only [impl_allWithin.l0] at H
      by_cases c4 : x11_1 < (l0.length : Int)
      · rw [if_pos c4] at H
        have c4b0 : decide (x11_1 < (l0.length : Int)) = true := decide_eq_true c4
        clear c4
        by_cases c5 : 0 ≤ x11_1
        · rw [if_pos c5] at H
          have c5b0 : decide (0 ≤ x11_1) = true := decide_eq_true c5
          clear c5
          by_cases c6 : x11_1 < (l0.length : Int)
          · rw [if_pos c6] at H
            have c6b0 : decide (x11_1 < (l0.length : Int)) = true := decide_eq_true c6
            clear c6
            replace H := Option.bind_eq_some_iff.mp H
            obtain ⟨t149, A70, H⟩ := H
            replace H : (if t149 = true then (impl_allWithin.l0 k1 a1 a2 l0 (l0.length : Int) (wrap64 (x11_1 + 1))) else (some false)) = some r := H
            have A7 := Aside0.mk A70
            clear A70
            by_cases c8 : t149 = true
            · subst c8
              have H1 : (impl_allWithin.l0 k1 a1 a2 l0 (l0.length : Int) (wrap64 (x11_1 + 1))) = some r := by rw [if_pos rfl] at H; exact H
              clear H
              have H := H1
              clear H1
              have H' := Aside0.mk H
              clear H
              have p148 : 0 ≤ (x11_1 : Int) := of_decide_eq_true (by first | (with_reducible assumption) | assumption)
              have q148 : x11_1 < (l0.length : Int) := of_decide_eq_true (by first | (with_reducible assumption) | assumption)
              obtain ⟨ad148, e148, hx148_0⟩ := Kd.at_int HR0.out x11_1 p148 q148
              cases e148
              replace p148 := eq_true p148
              replace q148 := eq_true q148
              go_wp2_with (first | ((with_reducible refine gate_callee (f := 81) rfl ?_); refine goesL_ (some 18) rfl rfl Try.func81 (by kernel_rfl) rfl #[.int .i64 (rd l0 x11_1), .int .i64 a1, .int .i64 a2] rfl (by (try simp only [List.map_toArray, List.map_cons, List.map_nil]); first | done | rfl | (simp only [List.length_drop, List.length_take]; rfl)) ?_; (with_reducible refine (impl_within.calls (rd l0 x11_1) a1 a2 true _ A7.out).mono ?_); rintro e w' ⟨rfl, ⟨nd, rfl⟩⟩; refine ⟨_, rfl, ?_⟩))
              go_roundg k1
              case measure => have := HK1.out; omega
              case rel => exact ⟨(wrap64 (x11_1 + 1)), (by first | rfl | (simp; done) | (simp [*]; done)), H', ⟨by have := HK1.out; omega⟩, by repeat (first | exact Drawn0.refl _ | apply Drawn0.step)⟩
            · replace c8 := Bool.eq_false_iff.mpr c8
              subst c8
              have H1 : (some false) = some r := by rw [if_neg (show ¬ (false = true) by decide)] at H; exact H
              clear H
              have H := H1
              clear H1
              obtain rfl := Option.some.inj H
              have p148 : 0 ≤ (x11_1 : Int) := of_decide_eq_true (by first | (with_reducible assumption) | assumption)
              have q148 : x11_1 < (l0.length : Int) := of_decide_eq_true (by first | (with_reducible assumption) | assumption)
              obtain ⟨ad148, e148, hx148_0⟩ := Kd.at_int HR0.out x11_1 p148 q148
              cases e148
              replace p148 := eq_true p148
              replace q148 := eq_true q148
              go_wp2_with (first | ((with_reducible refine gate_callee (f := 81) rfl ?_); refine goesL_ (some 18) rfl rfl Try.func81 (by kernel_rfl) rfl #[.int .i64 (rd l0 x11_1), .int .i64 a1, .int .i64 a2] rfl (by (try simp only [List.map_toArray, List.map_cons, List.map_nil]); first | done | rfl | (simp only [List.length_drop, List.length_take]; rfl)) ?_; (with_reducible refine (impl_within.calls (rd l0 x11_1) a1 a2 false _ A7.out).mono ?_); rintro e w' ⟨rfl, ⟨nd, rfl⟩⟩; refine ⟨_, rfl, ?_⟩))
              go_ret
              exact ⟨by first | rfl | (simp; done) | (simp [*]; done), by repeat (first | exact Drawn0.refl _ | apply Drawn0.step)⟩
          · rw [if_neg c6] at H
            exact absurd H (by simp)
        · rw [if_neg c5] at H
          exact absurd H (by simp)
      · rw [if_neg c4] at H
        have c4b0 : decide (x11_1 < (l0.length : Int)) = false := decide_eq_false c4
        clear c4
        obtain rfl := Option.some.inj H
        go_wp2
        go_ret
        exact ⟨by first | rfl | (simp; done) | (simp [*]; done), by repeat (first | exact Drawn0.refl _ | apply Drawn0.step)⟩

theorem impl_allWithin.go (lo hi : Int) (l : List Int) (hm : l.length < 4611686018427387904) (d : Nat) : ∀ (i : Nat) (k : Nat), l.length - i = d → i ≤ l.length → d < k →
    impl_allWithin.l0 k lo hi l (l.length : Int) (i : Int) = some (allW lo hi (l.drop i)) := by
  induction d with
  | zero =>
    intro i k hd hi' hk
    obtain ⟨k, rfl⟩ : ∃ m, k = m + 1 := ⟨k - 1, by omega⟩
    obtain rfl : i = l.length := by omega
    simp only [impl_allWithin.l0]
    rw [if_neg (by omega)]
    simp [allW]
  | succ d ih =>
    intro i k hd hi' hk
    obtain ⟨k, rfl⟩ : ∃ m, k = m + 1 := ⟨k - 1, by omega⟩
    have hlt : i < l.length := by omega
    simp only [impl_allWithin.l0]
    rw [if_pos (by omega), if_pos (by omega), if_pos (by omega)]
    have hrd : rd l (i : Int) = l[i] := by simp [rd, hlt]
    have hda : allW lo hi (l.drop i) = (decide (lo ≤ l[i]) && decide (l[i] ≤ hi) && allW lo hi (l.drop (i + 1))) := by
      unfold allW; rw [List.drop_eq_getElem_cons hlt, List.all_cons]
    have hw : wrap64 ((i : Int) + 1) = ((i + 1 : Nat) : Int) := by unfold wrap64; omega
    rw [hda, hrd, hw, ih (i + 1) k (by omega) (by omega) (by omega)]
    unfold impl_within.f
    by_cases h1 : l[i] ≥ lo
    · rw [if_pos h1]
      by_cases h2 : l[i] ≤ hi
      · simp [h2, ge_iff_le.mp h1]
      · simp [h2]
    · rw [if_neg h1]
      have : ¬ lo ≤ l[i] := h1
      simp [this]
theorem impl_allWithin.ev (lo hi : Int) (l : List Int) (hm : l.length < 4611686018427387904) : ∃ k, impl_allWithin.f k l lo hi = some (allW lo hi l) :=
  ⟨l.length + 1, by unfold impl_allWithin.f; exact impl_allWithin.go lo hi l hm l.length 0 _ (by omega) (by omega) (by omega)⟩

end Go.Proofs.Ytcjjmfpkhhdmlaa.G

namespace Go.Proofs.Ytcjjmfpkhhdmlaa.G
open Go.RowKit Go.Proofs.YtcjjmfpkhhdmlaaW.PrintWords Go.Proofs.YtcjjmfpkhhdmlaaW.PrintLast Go.Proofs.YtcjjmfpkhhdmlaaW.PrintMore
attribute [local go_sem] max2_int min2_int max_two min_two max_three min_three max_four min_four   -- for this text's walks alone
set_option linter.unusedVariables false
set_option linter.unusedSimpArgs false

/-! ### impl_isColour: function 115 -/
def impl_isColour.f (k : Nat) (l0 : List Int) : Option (Bool) := if (l0.length : Int) = 3 then ((impl_allWithin.f k l0 0 255).bind fun t402 => (some t402)) else (some false)
theorem impl_isColour.mono : ∀ a0 k, LeO (impl_isColour.f k a0) (impl_isColour.f (k + 1) a0) := by
  intro a0 k
  unfold impl_isColour.f
  repeat' first
      | (with_reducible exact impl_allWithin.mono _ _ _ _)
      | (with_reducible exact LeO.refl _)
      | (with_reducible exact LeO.none _)
      | (with_reducible refine LeO.ite ?_ ?_)
      | (with_reducible refine LeO.bind ?_ (fun _ => ?_))
      | exact impl_allWithin.mono _ _ _ _
      | exact LeO.none _
      | refine LeO.ite ?_ ?_
      | refine LeO.bind ?_ (fun _ => ?_)
set_option maxHeartbeats 8000000 in
set_option maxRecDepth 100000 in
theorem impl_isColour.calls (k : Nat) (A0 : Option Addr) (c0 : Nat) (l0 : List Int) (r : Bool) (w : World) (hr0 : Kd.C (Kd.int .i64) w A0 l0.length l0) (hc0 : l0.length ≤ c0) (h : impl_isColour.f k l0 = some r) :
    Calls Try.prog 115 #[.slice A0 l0.length c0] w fun e w' => e = .returned (.bool r) ∧ Drawn0 w w' := by
  have HR0 := Aside0.mk hr0
  have HC0 := Aside0.mk hc0
  clear hr0 hc0
  have H : (if (l0.length : Int) = 3 then ((impl_allWithin.f k l0 0 255).bind fun t402 => (some t402)) else (some false)) = some r := h
  clear h
  by_cases c2 : (l0.length : Int) = 3
  · rw [if_pos c2] at H
    have c2b0 : ((l0.length : Int) == 3) = true := beq_iff_eq.mpr c2
    have c2b1 : ((l0.length : Int) != 3) = false := bne_eq_false_iff_eq.mpr c2
    clear c2
    replace H := Option.bind_eq_some_iff.mp H
    obtain ⟨t402, A30, H⟩ := H
    replace H : (some t402) = some r := H
    have A3 := Aside0.mk A30
    clear A30
    obtain rfl := Option.some.inj H
    go_enter Try.func115, Try.ntmps115
    go_wp2_with (first | (go_at_call 94; (with_reducible refine (impl_allWithin.calls k _ _ l0 0 255 t402 _ ?side1 ?side2 A3.out).mono ?_); (case side1 => repeat (first | exact HR0.out | (with_reducible refine Kd.C_alloc ?_ _) | (with_reducible refine Kd.C_drewN ?_ _) | (with_reducible refine Kd.C_drew ?_))); (case side2 => exact HC0.out); rintro e w' ⟨rfl, ⟨nd, rfl⟩⟩))
    go_ret
    exact ⟨by first | rfl | (simp; done) | (simp [*]; done), by repeat (first | exact Drawn0.refl _ | apply Drawn0.step)⟩
  · rw [if_neg c2] at H
    have c2b0 : ((l0.length : Int) == 3) = false := beq_eq_false_iff_ne.mpr c2
    have c2b1 : ((l0.length : Int) != 3) = true := bne_iff_ne.mpr c2
    obtain rfl := Option.some.inj H
    go_enter Try.func115, Try.ntmps115
    go_wp2
    go_ret
    exact ⟨by first | rfl | (simp; done) | (simp [*]; done), by repeat (first | exact Drawn0.refl _ | apply Drawn0.step)⟩

theorem impl_isColour.ev (px : List Int) : ∃ k, impl_isColour.f k px = some (isPx px) := by
  unfold impl_isColour.f isPx
  by_cases h : px.length = 3
  · obtain ⟨k, hk⟩ := impl_allWithin.ev 0 255 px (by omega)
    exact ⟨k, by rw [if_pos (by omega), hk]; simp [h]⟩
  · exact ⟨0, by rw [if_neg (by omega)]; simp [h]⟩
theorem impl_isColour.E (px : List Int) : Ev (fun k => impl_isColour.f k px) (isPx px) := by
  obtain ⟨k, h⟩ := impl_isColour.ev px
  exact Ev.of (fun k => impl_isColour.mono _ k) h

end Go.Proofs.Ytcjjmfpkhhdmlaa.G

namespace Go.Proofs.Ytcjjmfpkhhdmlaa.G
open Go.RowKit Go.Proofs.YtcjjmfpkhhdmlaaW.PrintWords Go.Proofs.YtcjjmfpkhhdmlaaW.PrintLast Go.Proofs.YtcjjmfpkhhdmlaaW.PrintMore
attribute [local go_sem] max2_int min2_int max_two min_two max_three min_three max_four min_four   -- for this text's walks alone
set_option linter.unusedVariables false
set_option linter.unusedSimpArgs false

/-! ### impl_PixelsOk: function 56 -/
theorem pix_lit (A0 : Option Addr) (c0 : Nat) (l0 : List Int) (w : World) (hr0 : Kd.C (Kd.int .i64) w A0 l0.length l0) (hc0 : l0.length ≤ c0) :
    Calls Try.prog 130 #[.slice A0 l0.length c0] w fun e w' => e = .returned (.bool (!isPx l0)) ∧ Drawn0 w w' := by
  obtain ⟨k, h⟩ := impl_isColour.ev l0
  have A3 := Aside0.mk h
  clear h
  have HR0 := Aside0.mk hr0
  have HC0 := Aside0.mk hc0
  clear hr0 hc0
  go_enter Try.func130, Try.ntmps130
  go_wp2_with (first | (go_at_call 115; (with_reducible refine (impl_isColour.calls k _ _ l0 _ _ ?side1 ?side2 A3.out).mono ?_); (case side1 => exact HR0.out); (case side2 => exact HC0.out); rintro e w' ⟨rfl, ⟨nd, rfl⟩⟩))
  go_ret
  exact ⟨rfl, ⟨_, rfl⟩⟩
def IdxPost (l0 : List (List Int)) (w : World) (e : Ending) (w' : World) : Prop := (∃ r : Int, e = .returned (.int .i64 r) ∧ (0 ≤ r ↔ l0.all isPx = false)) ∧ Drawn0 w w'
theorem idx_lit (A0 : Option Addr) (c0 : Nat) (l0 : List (List Int)) (w : World) (hr0 : Kd.C (Kd.slice 3 (Kd.int .i64)) w A0 l0.length l0) (hc0 : l0.length ≤ c0) (hm : l0.length ≤ 4096) :
    Calls Try.prog 149 #[.slice A0 l0.length c0, .func (.func 130) #[] #[]] w (IdxPost l0 w) := by
  have HR0 := Aside0.mk hr0
  have HC0 := Aside0.mk hc0
  clear hr0 hc0
  go_enter Try.func149, Try.ntmps149
  go_wp2
  go_loopw [8] (fun i w' => ∃ k : Nat, i = .int .i64 k ∧ k ≤ l0.length ∧ Aside0 ((l0.take k).all isPx = true) ∧ Drawn0 w w') (fun i w' => l0.length - (intOf i).toNat)
  case atStart => exact ⟨0, rfl, by omega, ⟨by simp⟩, Drawn0.refl _⟩
  case round =>
    obtain ⟨k, rfl, hk, HA, ⟨m1, rfl⟩⟩ := hrel
    by_cases hlt : k < l0.length
    · obtain ⟨ad, A1, c1, e1, hx, hl, hi⟩ := at_L3 HR0.out (k : Int) (by omega) (by omega)
      cases e1
      rw [Int.toNat_natCast] at hx
      have HR1 := Aside0.mk hi
      have HC1 := Aside0.mk hl
      clear hi hl
      have hgl : rd_L3 l0 k = l0[k] := by simp [rd_L3, hlt]
      cases hp : isPx (rd_L3 l0 k)
      · have HP := Aside0.mk hp
        have HG := Aside0.mk hgl
        clear hp hgl
        go_wp2_with (first | (go_at_call 130; (with_reducible refine (pix_lit _ _ (rd_L3 l0 k) _ ?side1 ?side2).mono ?_); (case side1 => exact HR1.out); (case side2 => exact HC1.out); (rw [HP.out]); rintro e w' ⟨rfl, ⟨nd, rfl⟩⟩))
        go_ret
        exact ⟨⟨_, rfl, by simp only [Int.natCast_nonneg, true_iff]; rw [Bool.eq_false_iff]; intro h; rw [List.all_eq_true] at h; have := h l0[k] (List.getElem_mem _); rw [← HG.out, HP.out] at this; simp at this⟩, by repeat (first | exact Drawn0.refl _ | apply Drawn0.step)⟩
      · have HP := Aside0.mk hp
        have HG := Aside0.mk hgl
        clear hp hgl
        go_wp2_with (first | (go_at_call 130; (with_reducible refine (pix_lit _ _ (rd_L3 l0 k) _ ?side1 ?side2).mono ?_); (case side1 => exact HR1.out); (case side2 => exact HC1.out); (rw [HP.out]); rintro e w' ⟨rfl, ⟨nd, rfl⟩⟩))
        go_roundw
        case rel => exact ⟨k + 1, by go_num, by omega, ⟨by rw [List.take_succ_eq_append_getElem hlt, List.all_append, HA.out]; simp [← HG.out, HP.out]⟩, by repeat (first | exact Drawn0.refl _ | apply Drawn0.step)⟩
        case measure => simp [intOf]; omega
    · obtain rfl : k = l0.length := by omega
      go_wp2
      go_ret
      exact ⟨⟨_, rfl, by have := HA.out; rw [List.take_length] at this; simp [this]⟩, by repeat (first | exact Drawn0.refl _ | apply Drawn0.step)⟩
theorem cont_lit (A0 : Option Addr) (c0 : Nat) (l0 : List (List Int)) (w : World) (hr0 : Kd.C (Kd.slice 3 (Kd.int .i64)) w A0 l0.length l0) (hc0 : l0.length ≤ c0) (hm : l0.length ≤ 4096) :
    Calls Try.prog 92 #[.slice A0 l0.length c0, .func (.func 130) #[] #[]] w fun e w' => e = .returned (.bool (!l0.all isPx)) ∧ Drawn0 w w' := by
  have HR0 := Aside0.mk hr0
  have HC0 := Aside0.mk hc0
  clear hr0 hc0
  have key : ∀ r : Int, (0 ≤ r ↔ l0.all isPx = false) → (0 ≤ r) = (l0.all isPx = false) := fun r h => propext h
  cases ha : l0.all isPx
  all_goals
    have HAA := Aside0.mk ha
    clear ha key
    go_enter Try.func92, Try.ntmps92
    go_wp2_with (first | (go_at_call 149; (with_reducible refine (idx_lit _ _ l0 _ ?side1 ?side2 hm).mono ?_); (case side1 => exact HR0.out); (case side2 => exact HC0.out); rintro e w' ⟨⟨r, rfl, hq⟩, ⟨nd, rfl⟩⟩; rw [HAA.out] at hq; (first | have hq2 : 0 ≤ r := hq.2 rfl | have hq2 : ¬ 0 ≤ r := fun z => absurd (hq.1 z) (by decide)); clear hq))
    go_ret
    exact ⟨by simp [hq2], ⟨_, rfl⟩⟩
def impl_PixelsOk.f (l0 : List (List Int)) : Option Bool := some (decide (l0.length ≤ 4096) && l0.all isPx)
theorem impl_PixelsOk.calls (A0 : Option Addr) (c0 : Nat) (l0 : List (List Int)) (r : Bool) (w : World) (hr0 : Kd.C (Kd.slice 3 (Kd.int .i64)) w A0 l0.length l0) (hc0 : l0.length ≤ c0) (h : impl_PixelsOk.f l0 = some r) :
    Calls Try.prog 56 #[.slice A0 l0.length c0] w fun e w' => e = .returned (.bool r) ∧ Drawn0 w w' := by
  have HR0 := Aside0.mk hr0
  have HC0 := Aside0.mk hc0
  obtain rfl := Option.some.inj h
  clear hr0 hc0 h
  by_cases hm : l0.length ≤ 4096
  · have hm1 : decide ((l0.length : Int) ≤ 4096) = true := decide_eq_true (by omega)
    cases ha : l0.all isPx
    all_goals
      have HAA := Aside0.mk ha
      clear ha
      go_enter Try.func56, Try.ntmps56
      go_wp2_with (first | (go_at_call 92; (with_reducible refine (cont_lit _ _ l0 _ ?side1 ?side2 hm).mono ?_); (case side1 => exact HR0.out); (case side2 => exact HC0.out); rw [HAA.out]; rintro e w' ⟨rfl, ⟨nd, rfl⟩⟩))
      go_ret
      exact ⟨by simp [hm], ⟨_, rfl⟩⟩
  · have hm1 : decide ((l0.length : Int) ≤ 4096) = false := decide_eq_false (by omega)
    go_enter Try.func56, Try.ntmps56
    go_wp2
    go_ret
    exact ⟨by simp [hm], ⟨0, rfl⟩⟩

end Go.Proofs.Ytcjjmfpkhhdmlaa.G

namespace Go.Proofs.Ytcjjmfpkhhdmlaa.G
open Go.RowKit Go.Proofs.YtcjjmfpkhhdmlaaW.PrintWords Go.Proofs.YtcjjmfpkhhdmlaaW.PrintLast Go.Proofs.YtcjjmfpkhhdmlaaW.PrintMore
attribute [local go_sem] max2_int min2_int max_two min_two max_three min_three max_four min_four   -- for this text's walks alone
set_option linter.unusedVariables false
set_option linter.unusedSimpArgs false

/-! ### impl_areColours: function 108 -/
def impl_areColours.f (l0 : List (List Int)) : Option (Bool) := (impl_PixelsOk.f l0).bind fun t403 => (if t403 = true then ((impl_within.f (l0.length : Int) 1 256).bind fun t404 => (some t404)) else (some false))
set_option maxHeartbeats 8000000 in
set_option maxRecDepth 100000 in
theorem impl_areColours.calls (A0 : Option Addr) (c0 : Nat) (l0 : List (List Int)) (r : Bool) (w : World) (hr0 : Kd.C (Kd.slice 3 (Kd.int .i64)) w A0 l0.length l0) (hc0 : l0.length ≤ c0) (h : impl_areColours.f l0 = some r) :
    Calls Try.prog 108 #[.slice A0 l0.length c0] w fun e w' => e = .returned (.bool r) ∧ Drawn0 w w' := by
  have HR0 := Aside0.mk hr0
  have HC0 := Aside0.mk hc0
  clear hr0 hc0
  have H : ((impl_PixelsOk.f l0).bind fun t403 => (if t403 = true then ((impl_within.f (l0.length : Int) 1 256).bind fun t404 => (some t404)) else (some false))) = some r := h
  clear h
  replace H := Option.bind_eq_some_iff.mp H
  obtain ⟨t403, A20, H⟩ := H
  replace H : (if t403 = true then ((impl_within.f (l0.length : Int) 1 256).bind fun t404 => (some t404)) else (some false)) = some r := H
  have A2 := Aside0.mk A20
  clear A20
  by_cases c3 : t403 = true
  · subst c3
    have H1 : ((impl_within.f (l0.length : Int) 1 256).bind fun t404 => (some t404)) = some r := by rw [if_pos rfl] at H; exact H
    clear H
    have H := H1
    clear H1
    replace H := Option.bind_eq_some_iff.mp H
    obtain ⟨t404, A40, H⟩ := H
    replace H : (some t404) = some r := H
    have A4 := Aside0.mk A40
    clear A40
    obtain rfl := Option.some.inj H
    go_enter Try.func108, Try.ntmps108
    go_wp2_with (first | ((with_reducible refine gate_callee (f := 56) rfl ?_); refine goesL_ (some 4) rfl rfl Try.func56 (by kernel_rfl) rfl #[.slice A0 l0.length c0] rfl (by (try simp only [List.map_toArray, List.map_cons, List.map_nil]); first | done | rfl | (simp only [List.length_drop, List.length_take]; rfl)) ?_; (with_reducible refine (impl_PixelsOk.calls _ _ l0 true _ ?side1 ?side2 A2.out).mono ?_); (case side1 => repeat (first | exact HR0.out | (with_reducible refine Kd.C_alloc ?_ _) | (with_reducible refine Kd.C_drewN ?_ _) | (with_reducible refine Kd.C_drew ?_))); (case side2 => exact HC0.out); rintro e w' ⟨rfl, ⟨nd, rfl⟩⟩; refine ⟨_, rfl, ?_⟩) | (go_at_call 81; (with_reducible refine (impl_within.calls (l0.length : Int) 1 256 t404 _ A4.out).mono ?_); rintro e w' ⟨rfl, ⟨nd, rfl⟩⟩))
    go_ret
    exact ⟨by first | rfl | (simp; done) | (simp [*]; done), by repeat (first | exact Drawn0.refl _ | apply Drawn0.step)⟩
  · replace c3 := Bool.eq_false_iff.mpr c3
    subst c3
    have H1 : (some false) = some r := by rw [if_neg (show ¬ (false = true) by decide)] at H; exact H
    clear H
    have H := H1
    clear H1
    obtain rfl := Option.some.inj H
    go_enter Try.func108, Try.ntmps108
    go_wp2_with (first | ((with_reducible refine gate_callee (f := 56) rfl ?_); refine goesL_ (some 4) rfl rfl Try.func56 (by kernel_rfl) rfl #[.slice A0 l0.length c0] rfl (by (try simp only [List.map_toArray, List.map_cons, List.map_nil]); first | done | rfl | (simp only [List.length_drop, List.length_take]; rfl)) ?_; (with_reducible refine (impl_PixelsOk.calls _ _ l0 false _ ?side1 ?side2 A2.out).mono ?_); (case side1 => repeat (first | exact HR0.out | (with_reducible refine Kd.C_alloc ?_ _) | (with_reducible refine Kd.C_drewN ?_ _) | (with_reducible refine Kd.C_drew ?_))); (case side2 => exact HC0.out); rintro e w' ⟨rfl, ⟨nd, rfl⟩⟩; refine ⟨_, rfl, ?_⟩))
    go_ret
    exact ⟨by first | rfl | (simp; done) | (simp [*]; done), by repeat (first | exact Drawn0.refl _ | apply Drawn0.step)⟩

theorem impl_areColours.val (l : List (List Int)) : impl_areColours.f l = some (isCols l) := by
  unfold impl_areColours.f impl_PixelsOk.f impl_within.f isCols
  simp only [Option.bind_some]
  by_cases h : (decide (l.length ≤ 4096) && l.all isPx) = true
  · rw [if_pos h]
    rw [Bool.and_eq_true, decide_eq_true_eq] at h
    rw [h.2]
    by_cases h1 : (1 : Int) ≤ l.length
    · rw [if_pos h1]
      have : 1 ≤ l.length := by omega
      simp [this]
      omega
    · rw [if_neg h1]
      have : ¬ 1 ≤ l.length := by omega
      simp; intro h; omega
  · rw [if_neg h]
    by_cases h2 : l.all isPx = true
    · have h3 : ¬ l.length ≤ 4096 := fun h4 => h (by rw [h2]; simp [h4])
      have h5 : ¬ l.length ≤ 256 := by omega
      simp [h5]
    · rw [Bool.eq_false_iff.2 h2]; simp

end Go.Proofs.Ytcjjmfpkhhdmlaa.G

namespace Go.Proofs.Ytcjjmfpkhhdmlaa.G
open Go.RowKit Go.Proofs.YtcjjmfpkhhdmlaaW.PrintWords Go.Proofs.YtcjjmfpkhhdmlaaW.PrintLast Go.Proofs.YtcjjmfpkhhdmlaaW.PrintMore
attribute [local go_sem] max2_int min2_int max_two min_two max_three min_three max_four min_four   -- for this text's walks alone
set_option linter.unusedVariables false
set_option linter.unusedSimpArgs false

/-! ### impl_below: function 152 -/
def impl_below.f (a0 : Int) (a1 : Int) : Option (Int) := if a0 < 0 then (if a1 = 0 then (none) else (some (wrap64 (-(wrap64 (Int.tdiv (wrap64 ((wrap64 ((wrap64 (-a0)) + a1)) - 1)) a1)))))) else (if a1 = 0 then (none) else (some (wrap64 (Int.tdiv a0 a1))))
set_option maxHeartbeats 8000000 in
set_option maxRecDepth 100000 in
theorem impl_below.calls (a0 : Int) (a1 : Int) (r : Int) (w : World) (h : impl_below.f a0 a1 = some r) :
    Calls Try.prog 152 #[.int .i64 a0, .int .i64 a1] w fun e w' => e = .returned (.int .i64 r) ∧ Drawn0 w w' := by
  have H : (if a0 < 0 then (if a1 = 0 then (none) else (some (wrap64 (-(wrap64 (Int.tdiv (wrap64 ((wrap64 ((wrap64 (-a0)) + a1)) - 1)) a1)))))) else (if a1 = 0 then (none) else (some (wrap64 (Int.tdiv a0 a1))))) = some r := h
  clear h
  by_cases c3 : a0 < 0
  · rw [if_pos c3] at H
    have c3b0 : decide (a0 < 0) = true := decide_eq_true c3
    clear c3
    by_cases c4 : a1 = 0
    · rw [if_pos c4] at H
      exact absurd H (by simp)
    · rw [if_neg c4] at H
      have c4b0 : (a1 == 0) = false := beq_eq_false_iff_ne.mpr c4
      have c4b1 : (a1 != 0) = true := bne_iff_ne.mpr c4
      obtain rfl := Option.some.inj H
      go_enter Try.func152, Try.ntmps152
      go_wp2
      go_ret
      exact ⟨by first | rfl | (simp; done) | (simp [*]; done), by repeat (first | exact Drawn0.refl _ | apply Drawn0.step)⟩
  · rw [if_neg c3] at H
    have c3b0 : decide (a0 < 0) = false := decide_eq_false c3
    clear c3
    by_cases c5 : a1 = 0
    · rw [if_pos c5] at H
      exact absurd H (by simp)
    · rw [if_neg c5] at H
      have c5b0 : (a1 == 0) = false := beq_eq_false_iff_ne.mpr c5
      have c5b1 : (a1 != 0) = true := bne_iff_ne.mpr c5
      obtain rfl := Option.some.inj H
      go_enter Try.func152, Try.ntmps152
      go_wp2
      go_ret
      exact ⟨by first | rfl | (simp; done) | (simp [*]; done), by repeat (first | exact Drawn0.refl _ | apply Drawn0.step)⟩

end Go.Proofs.Ytcjjmfpkhhdmlaa.G

namespace Go.Proofs.Ytcjjmfpkhhdmlaa.G
open Go.RowKit Go.Proofs.YtcjjmfpkhhdmlaaW.PrintWords Go.Proofs.YtcjjmfpkhhdmlaaW.PrintLast Go.Proofs.YtcjjmfpkhhdmlaaW.PrintMore
attribute [local go_sem] max2_int min2_int max_two min_two max_three min_three max_four min_four   -- for this text's walks alone
set_option linter.unusedVariables false
set_option linter.unusedSimpArgs false

/-! ### impl_rounded: function 110 -/
def impl_rounded.f (a0 : Int) (a1 : Int) : Option (Int) := (impl_below.f (wrap64 ((wrap64 (2 * a0)) + a1)) (wrap64 (2 * a1))).bind fun t405 => (some t405)
set_option maxHeartbeats 8000000 in
set_option maxRecDepth 100000 in
theorem impl_rounded.calls (a0 : Int) (a1 : Int) (r : Int) (w : World) (h : impl_rounded.f a0 a1 = some r) :
    Calls Try.prog 110 #[.int .i64 a0, .int .i64 a1] w fun e w' => e = .returned (.int .i64 r) ∧ Drawn0 w w' := by
  have H : ((impl_below.f (wrap64 ((wrap64 (2 * a0)) + a1)) (wrap64 (2 * a1))).bind fun t405 => (some t405)) = some r := h
  clear h
  replace H := Option.bind_eq_some_iff.mp H
  obtain ⟨t405, A30, H⟩ := H
  replace H : (some t405) = some r := H
  have A3 := Aside0.mk A30
  clear A30
  obtain rfl := Option.some.inj H
  go_enter Try.func110, Try.ntmps110
  go_wp2_with (first | ((with_reducible refine gate_callee (f := 152) rfl ?_); refine goesL_ (some 11) rfl rfl Try.func152 (by kernel_rfl) rfl #[.int .i64 (wrap64 ((wrap64 (2 * a0)) + a1)), .int .i64 (wrap64 (2 * a1))] rfl (by (try simp only [List.map_toArray, List.map_cons, List.map_nil]); first | done | rfl | (simp only [List.length_drop, List.length_take]; rfl)) ?_; (with_reducible refine (impl_below.calls (wrap64 ((wrap64 (2 * a0)) + a1)) (wrap64 (2 * a1)) t405 _ A3.out).mono ?_); rintro e w' ⟨rfl, ⟨nd, rfl⟩⟩; refine ⟨_, rfl, ?_⟩))
  go_ret
  exact ⟨by first | rfl | (simp; done) | (simp [*]; done), by repeat (first | exact Drawn0.refl _ | apply Drawn0.step)⟩

end Go.Proofs.Ytcjjmfpkhhdmlaa.G
