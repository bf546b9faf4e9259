import Derived.Test.YtcjjmfpkhhdmlaaProg
import Derived.Below
import Derived.Deep.Draws
import Derived.Deep.AppendLies
import Derived.Maps.AppendAt
import Derived.OwnWalk
import Derived.Laws.BytesArg
import Derived.Laws.MakeOwn
import Derived.Laws.OwnMore
import Derived.Deep.OwnRows
import Derived.Tactics
import Derived.Lib.ConvBytes
import Derived.Laws.Slices
import Derived.WalkKit
import Derived.KernelRfl
import Derived.RowKit3
import Derived.Deep.LoopGhost
import Derived.Deep.QuietTactic
import Derived.BigQuiet
import Derived.WideLaws
import Derived.Deep.DeepCutAuto
import Derived.Deep.CutBlock
import Derived.Deep.RegionHeld3
import Derived.Laws.Rows
import Derived.Lib.AppendStr
import Derived.ArgAppend
import Derived.Laws.IdiomCopy
import Derived.OrdersHeld
import Derived.Laws.BitsLemmas
import Derived.RowKit
import Derived.Test.YtcjjmfpkhhdmlaaWWords
import Derived.Test.YtcjjmfpkhhdmlaaWLast
import Derived.Test.YtcjjmfpkhhdmlaaWTab
import Derived.Test.YtcjjmfpkhhdmlaaWFour
import Derived.Test.YtcjjmfpkhhdmlaaWQPut
import Derived.Test.YtcjjmfpkhhdmlaaWApart
import Derived.Test.YtcjjmfpkhhdmlaaWArr
import Derived.Test.YtcjjmfpkhhdmlaaWZeros
import Derived.Test.YtcjjmfpkhhdmlaaWFoot
import Derived.Test.YtcjjmfpkhhdmlaaWKept
import Derived.Test.YtcjjmfpkhhdmlaaWShare
import Derived.Test.YtcjjmfpkhhdmlaaWN
import Derived.Test.YtcjjmfpkhhdmlaaWFootNe
import Derived.Test.YtcjjmfpkhhdmlaaWAt
import Derived.Test.YtcjjmfpkhhdmlaaWEqStruct
import Derived.Test.YtcjjmfpkhhdmlaaWRepsOne
import Derived.Test.YtcjjmfpkhhdmlaaWInv
import Derived.Test.YtcjjmfpkhhdmlaaWInvWords
import Derived.Test.YtcjjmfpkhhdmlaaWGuard
import Derived.Test.YtcjjmfpkhhdmlaaWNEv
import Derived.Test.YtcjjmfpkhhdmlaaWMore
import Derived.BigRegion
import Derived.Deep.CutRange
set_option linter.unusedVariables false
set_option linter.unusedSimpArgs false
namespace Go.Proofs.Ytcjjmfpkhhdmlaa.G
open Go.RowKit Go.Proofs.YtcjjmfpkhhdmlaaW.PrintWords Go.Proofs.YtcjjmfpkhhdmlaaW.PrintLast Go.Proofs.YtcjjmfpkhhdmlaaW.PrintMore
attribute [local go_sem] max2_int min2_int max_two min_two max_three min_three max_four min_four   -- for this text's walks alone
def errW : Option Int → Value
  | none => .nilIface
  | some c => .iface 0 (.int .i64 c)
theorem errW_none : errW none = .nilIface := rfl
theorem errW_some (c : Int) : errW (some c) = .iface 0 (.int .i64 c) := rfl
theorem info3 : (Try.prog.info? 3).map (fun i => (i.zero, i.size, i.bytes)) = some (some (.int .i64 0), 1, 8) := by kernel_rfl
theorem info4 : (Try.prog.info? 4).map (fun i => (i.zero, i.size, i.bytes)) = some (some (.bool false), 1, 1) := by kernel_rfl
theorem info5 : (Try.prog.info? 5).map (fun i => (i.zero, i.size, i.bytes)) = some (some (.int .u8 0), 1, 1) := by kernel_rfl
theorem info22 : (Try.prog.info? 22).map (fun i => (i.zero, i.size, i.bytes)) = some (some (.slice none 0 0), 1, 24) := by kernel_rfl
theorem info36 : (Try.prog.info? 36).map (fun i => (i.zero, i.size, i.bytes)) = some (some (.slice none 0 0), 1, 24) := by kernel_rfl
theorem info116 : (Try.prog.info? 116).map (fun i => (i.zero, i.size, i.bytes)) = some (some (.agg #[(.int .i64 0), (.int .i64 0), (.int .i64 0)]), 3, 24) := by kernel_rfl
theorem info124 : (Try.prog.info? 124).map (fun i => (i.zero, i.size, i.bytes)) = some (some (.agg #[(.int .i64 0), (.int .i64 0)]), 2, 16) := by kernel_rfl
theorem info131 : (Try.prog.info? 131).map (fun i => (i.zero, i.size, i.bytes)) = some (some (.agg #[(.int .i64 0), (.slice none 0 0)]), 2, 32) := by kernel_rfl
theorem info167 : (Try.prog.info? 167).map (fun i => (i.zero, i.size, i.bytes)) = some (some (.agg #[(.int .i64 0), (.slice none 0 0)]), 2, 32) := by kernel_rfl
-- the values' own types
/-! #### struct type 124 -/
structure S124 where
  f0 : Int
  f1 : Int
def z124 : S124 := ⟨(0 : Int), (0 : Int)⟩
def k124 : Kd S124 := Kd.iso (Kd.pair (Kd.int .i64) (Kd.int .i64)) (fun x : S124 => (x.f0, x.f1))
theorem k124_open {w : World} {x : S124} {cs : List Value} (h : k124.K w x cs) : cs = [.int .i64 x.f0, .int .i64 x.f1] := by
  obtain ⟨_, _, rfl, rfl, rfl⟩ := h
  exact rfl
theorem k124_openM {w : World} {base : Nat} {ok : Nat → Prop} {x : S124} {cs : List Value} (h : k124.M w base ok x cs) : cs = [.int .i64 x.f0, .int .i64 x.f1] := by
  obtain ⟨_, _, rfl, rfl, rfl⟩ := h
  exact rfl
theorem k124_mk (w : World) (x : S124)  : k124.K w x [.int .i64 x.f0, .int .i64 x.f1] := ⟨[.int .i64 x.f0], [.int .i64 x.f1], rfl, rfl, rfl⟩
theorem k124_mkM (w : World) (base : Nat) (ok : Nat → Prop) (x : S124)  : k124.M w base ok x [.int .i64 x.f0, .int .i64 x.f1] := ⟨[.int .i64 x.f0], [.int .i64 x.f1], rfl, rfl, rfl⟩
theorem k124_mkF (W : World) (ok : Nat → Prop) (x : S124) : Kd.FK k124 W ok x [.int .i64 x.f0, .int .i64 x.f1] := fun W2 _ => k124_mk W2 x
def rd_T124 (xs : List S124) (i : Int) : S124 := xs.getD i.toNat z124
theorem at_T124 {w : World} {A : Option Addr} {n : Nat} {xs : List S124} (h : Kd.C k124 w A n xs) (i : Int) (h0 : 0 ≤ i) (h1 : i < n) : ∃ ad , A = some ad ∧ w.cell? (ad.add (i.toNat * 2)) = some (.int .i64 (rd_T124 xs i).f0) ∧ w.cell? ⟨(ad.add (i.toNat * 2)).block, (ad.add (i.toNat * 2)).off + 1, none⟩ = some (.int .i64 (rd_T124 xs i).f1) := by
  obtain ⟨ad, c, e, _, hK, hc0⟩ := Kd.C_get h z124 i h0 h1
  have hc : ∀ j u, c[j]? = some u → w.cell? (ad.add (i.toNat * 2 + j)) = some u := hc0
  obtain rfl := k124_open hK
  exact ⟨ad, e, hc 0 _ rfl, by rw [← add_field _ _ 1 (by omega)]; exact hc 1 _ rfl⟩
def rd_L3 (xs : List (List Int)) (i : Int) : (List Int) := xs.getD i.toNat ([] : List Int)
theorem at_L3 {w : World} {A : Option Addr} {n : Nat} {xs : List (List Int)} (h : Kd.C (Kd.slice 3 (Kd.int .i64)) w A n xs) (i : Int) (h0 : 0 ≤ i) (h1 : i < n) : ∃ ad A0 c0, A = some ad ∧ w.cell? (ad.add i.toNat) = some (.slice A0 (rd_L3 xs i).length c0) ∧ (rd_L3 xs i).length ≤ c0 ∧ (Kd.int .i64).C w A0 (rd_L3 xs i).length (rd_L3 xs i) := by
  obtain ⟨ad, c, e, _, hK, hc0⟩ := Kd.C_get h ([] : List Int) i h0 h1
  have hc : ∀ j u, c[j]? = some u → w.cell? (ad.add (i.toNat * 1 + j)) = some u := hc0
  obtain ⟨A0, c0, rfl, l0, g0⟩ := hK
  exact ⟨ad, A0, c0, e, by have hq := hc 0 _ rfl; rwa [Nat.mul_one, Nat.add_zero] at hq, l0, g0⟩
def rd_L4 (xs : List (List Int)) (i : Int) : (List Int) := xs.getD i.toNat ([] : List Int)
theorem at_L4 {w : World} {A : Option Addr} {n : Nat} {xs : List (List Int)} (h : Kd.C (Kd.slice 5 (Kd.int .u8)) w A n xs) (i : Int) (h0 : 0 ≤ i) (h1 : i < n) : ∃ ad A0 c0, A = some ad ∧ w.cell? (ad.add i.toNat) = some (.slice A0 (rd_L4 xs i).length c0) ∧ (rd_L4 xs i).length ≤ c0 ∧ (Kd.int .u8).C w A0 (rd_L4 xs i).length (rd_L4 xs i) := by
  obtain ⟨ad, c, e, _, hK, hc0⟩ := Kd.C_get h ([] : List Int) i h0 h1
  have hc : ∀ j u, c[j]? = some u → w.cell? (ad.add (i.toNat * 1 + j)) = some u := hc0
  obtain ⟨A0, c0, rfl, l0, g0⟩ := hK
  exact ⟨ad, A0, c0, e, by have hq := hc 0 _ rfl; rwa [Nat.mul_one, Nat.add_zero] at hq, l0, g0⟩
def rd_L6 (xs : List (List (List Int))) (i : Int) : (List (List Int)) := xs.getD i.toNat ([] : List (List Int))
theorem at_L6 {w : World} {A : Option Addr} {n : Nat} {xs : List (List (List Int))} (h : Kd.C (Kd.slice 22 (Kd.slice 3 (Kd.int .i64))) w A n xs) (i : Int) (h0 : 0 ≤ i) (h1 : i < n) : ∃ ad A0 c0, A = some ad ∧ w.cell? (ad.add i.toNat) = some (.slice A0 (rd_L6 xs i).length c0) ∧ (rd_L6 xs i).length ≤ c0 ∧ (Kd.slice 3 (Kd.int .i64)).C w A0 (rd_L6 xs i).length (rd_L6 xs i) := by
  obtain ⟨ad, c, e, _, hK, hc0⟩ := Kd.C_get h ([] : List (List Int)) i h0 h1
  have hc : ∀ j u, c[j]? = some u → w.cell? (ad.add (i.toNat * 1 + j)) = some u := hc0
  obtain ⟨A0, c0, rfl, l0, g0⟩ := hK
  exact ⟨ad, A0, c0, e, by have hq := hc 0 _ rfl; rwa [Nat.mul_one, Nat.add_zero] at hq, l0, g0⟩
/-! #### struct type 167 -/
structure S167 where
  f0 : Int
  f1 : (List Int)
def z167 : S167 := ⟨(0 : Int), ([] : List Int)⟩
def k167 : Kd S167 := Kd.iso (Kd.pair (Kd.int .i64) (Kd.slice 3 (Kd.int .i64))) (fun x : S167 => (x.f0, x.f1))
theorem k167_open {w : World} {x : S167} {cs : List Value} (h : k167.K w x cs) : ∃ A1 c1, cs = [.int .i64 x.f0, .slice A1 x.f1.length c1] ∧ x.f1.length ≤ c1 ∧ (Kd.int .i64).C w A1 x.f1.length x.f1 := by
  obtain ⟨_, _, rfl, rfl, ⟨A1, c1, rfl, l1, g1⟩⟩ := h
  exact ⟨A1, c1, rfl, l1, g1⟩
theorem k167_openM {w : World} {base : Nat} {ok : Nat → Prop} {x : S167} {cs : List Value} (h : k167.M w base ok x cs) : ∃ v1, cs = [.int .i64 x.f0, v1] ∧ (Kd.int .i64).R 3 w base ok v1 x.f1 := by
  obtain ⟨_, _, rfl, rfl, ⟨v1, rfl, g1⟩⟩ := h
  exact ⟨v1, rfl, g1⟩
theorem k167_mk (w : World) (x : S167) {A1 : Option Addr} {c1 : Nat} (l1 : x.f1.length ≤ c1) (g1 : (Kd.int .i64).C w A1 x.f1.length x.f1) : k167.K w x [.int .i64 x.f0, .slice A1 x.f1.length c1] := ⟨[.int .i64 x.f0], [.slice A1 x.f1.length c1], rfl, rfl, ⟨A1, c1, rfl, l1, g1⟩⟩
theorem k167_mkM (w : World) (base : Nat) (ok : Nat → Prop) (x : S167) {v1 : Value} (g1 : (Kd.int .i64).R 3 w base ok v1 x.f1) : k167.M w base ok x [.int .i64 x.f0, v1] := ⟨[.int .i64 x.f0], [v1], rfl, rfl, ⟨v1, rfl, g1⟩⟩
theorem k167_openF {W : World} {ok : Nat → Prop} {x : S167} {cs : List Value} (h : Kd.FK k167 W ok x cs) : ∃ A1 c1, cs = [.int .i64 x.f0, .slice A1 x.f1.length c1] ∧ x.f1.length ≤ c1 ∧ Kd.F (Kd.int .i64) W ok A1 x.f1.length x.f1 := by
  obtain ⟨A1, c1, rfl, l1, _⟩ := k167_open (Kd.FK_now h)
  exact ⟨A1, c1, rfl, l1, (fun W' hW => by obtain ⟨A1_, c1_, he, l1_, g1_⟩ := k167_open (h W' hW); injection (Option.some.inj (show some (Value.slice A1 x.f1.length c1) = some (Value.slice A1_ x.f1.length c1_) from congrArg (fun l => l[1]?) he)) with ha_ _ _; rw [ha_]; exact g1_)⟩
theorem k167_mkF (W : World) (ok : Nat → Prop) (x : S167) {A1 : Option Addr} {c1 : Nat} (l1 : x.f1.length ≤ c1) (g1 : Kd.F (Kd.int .i64) W ok A1 x.f1.length x.f1) : Kd.FK k167 W ok x [.int .i64 x.f0, .slice A1 x.f1.length c1] := fun W2 hW => k167_mk W2 x l1 (g1 W2 hW)
def rd_T167 (xs : List S167) (i : Int) : S167 := xs.getD i.toNat z167
theorem at_T167 {w : World} {A : Option Addr} {n : Nat} {xs : List S167} (h : Kd.C k167 w A n xs) (i : Int) (h0 : 0 ≤ i) (h1 : i < n) : ∃ ad A1 c1, A = some ad ∧ w.cell? (ad.add (i.toNat * 2)) = some (.int .i64 (rd_T167 xs i).f0) ∧ w.cell? ⟨(ad.add (i.toNat * 2)).block, (ad.add (i.toNat * 2)).off + 1, none⟩ = some (.slice A1 (rd_T167 xs i).f1.length c1) ∧ (rd_T167 xs i).f1.length ≤ c1 ∧ (Kd.int .i64).C w A1 (rd_T167 xs i).f1.length (rd_T167 xs i).f1 := by
  obtain ⟨ad, c, e, _, hK, hc0⟩ := Kd.C_get h z167 i h0 h1
  have hc : ∀ j u, c[j]? = some u → w.cell? (ad.add (i.toNat * 2 + j)) = some u := hc0
  obtain ⟨A1, c1, rfl, l1, g1⟩ := k167_open hK
  exact ⟨ad, A1, c1, e, hc 0 _ rfl, by rw [← add_field _ _ 1 (by omega)]; exact hc 1 _ rfl, l1, g1⟩
def rd_L8 (xs : List (List S124)) (i : Int) : (List S124) := xs.getD i.toNat ([] : List S124)
theorem at_L8 {w : World} {A : Option Addr} {n : Nat} {xs : List (List S124)} (h : Kd.C (Kd.slice 124 k124) w A n xs) (i : Int) (h0 : 0 ≤ i) (h1 : i < n) : ∃ ad A0 c0, A = some ad ∧ w.cell? (ad.add i.toNat) = some (.slice A0 (rd_L8 xs i).length c0) ∧ (rd_L8 xs i).length ≤ c0 ∧ k124.C w A0 (rd_L8 xs i).length (rd_L8 xs i) := by
  obtain ⟨ad, c, e, _, hK, hc0⟩ := Kd.C_get h ([] : List S124) i h0 h1
  have hc : ∀ j u, c[j]? = some u → w.cell? (ad.add (i.toNat * 1 + j)) = some u := hc0
  obtain ⟨A0, c0, rfl, l0, g0⟩ := hK
  exact ⟨ad, A0, c0, e, by have hq := hc 0 _ rfl; rwa [Nat.mul_one, Nat.add_zero] at hq, l0, g0⟩
/-! #### struct type 131 -/
structure S131 where
  f0 : Int
  f1 : (List Int)
def z131 : S131 := ⟨(0 : Int), ([] : List Int)⟩
def k131 : Kd S131 := Kd.iso (Kd.pair (Kd.int .i64) (Kd.slice 5 (Kd.int .u8))) (fun x : S131 => (x.f0, x.f1))
theorem k131_open {w : World} {x : S131} {cs : List Value} (h : k131.K w x cs) : ∃ A1 c1, cs = [.int .i64 x.f0, .slice A1 x.f1.length c1] ∧ x.f1.length ≤ c1 ∧ (Kd.int .u8).C w A1 x.f1.length x.f1 := by
  obtain ⟨_, _, rfl, rfl, ⟨A1, c1, rfl, l1, g1⟩⟩ := h
  exact ⟨A1, c1, rfl, l1, g1⟩
theorem k131_openM {w : World} {base : Nat} {ok : Nat → Prop} {x : S131} {cs : List Value} (h : k131.M w base ok x cs) : ∃ v1, cs = [.int .i64 x.f0, v1] ∧ (Kd.int .u8).R 5 w base ok v1 x.f1 := by
  obtain ⟨_, _, rfl, rfl, ⟨v1, rfl, g1⟩⟩ := h
  exact ⟨v1, rfl, g1⟩
theorem k131_mk (w : World) (x : S131) {A1 : Option Addr} {c1 : Nat} (l1 : x.f1.length ≤ c1) (g1 : (Kd.int .u8).C w A1 x.f1.length x.f1) : k131.K w x [.int .i64 x.f0, .slice A1 x.f1.length c1] := ⟨[.int .i64 x.f0], [.slice A1 x.f1.length c1], rfl, rfl, ⟨A1, c1, rfl, l1, g1⟩⟩
theorem k131_mkM (w : World) (base : Nat) (ok : Nat → Prop) (x : S131) {v1 : Value} (g1 : (Kd.int .u8).R 5 w base ok v1 x.f1) : k131.M w base ok x [.int .i64 x.f0, v1] := ⟨[.int .i64 x.f0], [v1], rfl, rfl, ⟨v1, rfl, g1⟩⟩
theorem k131_openF {W : World} {ok : Nat → Prop} {x : S131} {cs : List Value} (h : Kd.FK k131 W ok x cs) : ∃ A1 c1, cs = [.int .i64 x.f0, .slice A1 x.f1.length c1] ∧ x.f1.length ≤ c1 ∧ Kd.F (Kd.int .u8) W ok A1 x.f1.length x.f1 := by
  obtain ⟨A1, c1, rfl, l1, _⟩ := k131_open (Kd.FK_now h)
  exact ⟨A1, c1, rfl, l1, (fun W' hW => by obtain ⟨A1_, c1_, he, l1_, g1_⟩ := k131_open (h W' hW); injection (Option.some.inj (show some (Value.slice A1 x.f1.length c1) = some (Value.slice A1_ x.f1.length c1_) from congrArg (fun l => l[1]?) he)) with ha_ _ _; rw [ha_]; exact g1_)⟩
theorem k131_mkF (W : World) (ok : Nat → Prop) (x : S131) {A1 : Option Addr} {c1 : Nat} (l1 : x.f1.length ≤ c1) (g1 : Kd.F (Kd.int .u8) W ok A1 x.f1.length x.f1) : Kd.FK k131 W ok x [.int .i64 x.f0, .slice A1 x.f1.length c1] := fun W2 hW => k131_mk W2 x l1 (g1 W2 hW)
def rd_T131 (xs : List S131) (i : Int) : S131 := xs.getD i.toNat z131
theorem at_T131 {w : World} {A : Option Addr} {n : Nat} {xs : List S131} (h : Kd.C k131 w A n xs) (i : Int) (h0 : 0 ≤ i) (h1 : i < n) : ∃ ad A1 c1, A = some ad ∧ w.cell? (ad.add (i.toNat * 2)) = some (.int .i64 (rd_T131 xs i).f0) ∧ w.cell? ⟨(ad.add (i.toNat * 2)).block, (ad.add (i.toNat * 2)).off + 1, none⟩ = some (.slice A1 (rd_T131 xs i).f1.length c1) ∧ (rd_T131 xs i).f1.length ≤ c1 ∧ (Kd.int .u8).C w A1 (rd_T131 xs i).f1.length (rd_T131 xs i).f1 := by
  obtain ⟨ad, c, e, _, hK, hc0⟩ := Kd.C_get h z131 i h0 h1
  have hc : ∀ j u, c[j]? = some u → w.cell? (ad.add (i.toNat * 2 + j)) = some u := hc0
  obtain ⟨A1, c1, rfl, l1, g1⟩ := k131_open hK
  exact ⟨ad, A1, c1, e, hc 0 _ rfl, by rw [← add_field _ _ 1 (by omega)]; exact hc 1 _ rfl, l1, g1⟩
def rd_L10 (xs : List (List S131)) (i : Int) : (List S131) := xs.getD i.toNat ([] : List S131)
theorem at_L10 {w : World} {A : Option Addr} {n : Nat} {xs : List (List S131)} (h : Kd.C (Kd.slice 131 k131) w A n xs) (i : Int) (h0 : 0 ≤ i) (h1 : i < n) : ∃ ad A0 c0, A = some ad ∧ w.cell? (ad.add i.toNat) = some (.slice A0 (rd_L10 xs i).length c0) ∧ (rd_L10 xs i).length ≤ c0 ∧ k131.C w A0 (rd_L10 xs i).length (rd_L10 xs i) := by
  obtain ⟨ad, c, e, _, hK, hc0⟩ := Kd.C_get h ([] : List S131) i h0 h1
  have hc : ∀ j u, c[j]? = some u → w.cell? (ad.add (i.toNat * 1 + j)) = some u := hc0
  obtain ⟨A0, c0, rfl, l0, g0⟩ := hK
  exact ⟨ad, A0, c0, e, by have hq := hc 0 _ rfl; rwa [Nat.mul_one, Nat.add_zero] at hq, l0, g0⟩
/-! #### struct type 65 -/
structure S65 where
  f0 : Int
  f1 : Int
def z65 : S65 := ⟨(0 : Int), (0 : Int)⟩
def k65 : Kd S65 := Kd.iso (Kd.pair (Kd.int .i64) (Kd.int .i64)) (fun x : S65 => (x.f0, x.f1))
theorem k65_open {w : World} {x : S65} {cs : List Value} (h : k65.K w x cs) : cs = [.int .i64 x.f0, .int .i64 x.f1] := by
  obtain ⟨_, _, rfl, rfl, rfl⟩ := h
  exact rfl
theorem k65_openM {w : World} {base : Nat} {ok : Nat → Prop} {x : S65} {cs : List Value} (h : k65.M w base ok x cs) : cs = [.int .i64 x.f0, .int .i64 x.f1] := by
  obtain ⟨_, _, rfl, rfl, rfl⟩ := h
  exact rfl
theorem k65_mk (w : World) (x : S65)  : k65.K w x [.int .i64 x.f0, .int .i64 x.f1] := ⟨[.int .i64 x.f0], [.int .i64 x.f1], rfl, rfl, rfl⟩
theorem k65_mkM (w : World) (base : Nat) (ok : Nat → Prop) (x : S65)  : k65.M w base ok x [.int .i64 x.f0, .int .i64 x.f1] := ⟨[.int .i64 x.f0], [.int .i64 x.f1], rfl, rfl, rfl⟩
theorem k65_mkF (W : World) (ok : Nat → Prop) (x : S65) : Kd.FK k65 W ok x [.int .i64 x.f0, .int .i64 x.f1] := fun W2 _ => k65_mk W2 x
def rd_T65 (xs : List S65) (i : Int) : S65 := xs.getD i.toNat z65
theorem at_T65 {w : World} {A : Option Addr} {n : Nat} {xs : List S65} (h : Kd.C k65 w A n xs) (i : Int) (h0 : 0 ≤ i) (h1 : i < n) : ∃ ad , A = some ad ∧ w.cell? (ad.add (i.toNat * 2)) = some (.int .i64 (rd_T65 xs i).f0) ∧ w.cell? ⟨(ad.add (i.toNat * 2)).block, (ad.add (i.toNat * 2)).off + 1, none⟩ = some (.int .i64 (rd_T65 xs i).f1) := by
  obtain ⟨ad, c, e, _, hK, hc0⟩ := Kd.C_get h z65 i h0 h1
  have hc : ∀ j u, c[j]? = some u → w.cell? (ad.add (i.toNat * 2 + j)) = some u := hc0
  obtain rfl := k65_open hK
  exact ⟨ad, e, hc 0 _ rfl, by rw [← add_field _ _ 1 (by omega)]; exact hc 1 _ rfl⟩
/-! #### struct type 71 -/
structure S71 where
  f0 : Int
  f1 : Int
def z71 : S71 := ⟨(0 : Int), (0 : Int)⟩
def k71 : Kd S71 := Kd.iso (Kd.pair (Kd.int .i64) (Kd.int .i64)) (fun x : S71 => (x.f0, x.f1))
theorem k71_open {w : World} {x : S71} {cs : List Value} (h : k71.K w x cs) : cs = [.int .i64 x.f0, .int .i64 x.f1] := by
  obtain ⟨_, _, rfl, rfl, rfl⟩ := h
  exact rfl
theorem k71_openM {w : World} {base : Nat} {ok : Nat → Prop} {x : S71} {cs : List Value} (h : k71.M w base ok x cs) : cs = [.int .i64 x.f0, .int .i64 x.f1] := by
  obtain ⟨_, _, rfl, rfl, rfl⟩ := h
  exact rfl
theorem k71_mk (w : World) (x : S71)  : k71.K w x [.int .i64 x.f0, .int .i64 x.f1] := ⟨[.int .i64 x.f0], [.int .i64 x.f1], rfl, rfl, rfl⟩
theorem k71_mkM (w : World) (base : Nat) (ok : Nat → Prop) (x : S71)  : k71.M w base ok x [.int .i64 x.f0, .int .i64 x.f1] := ⟨[.int .i64 x.f0], [.int .i64 x.f1], rfl, rfl, rfl⟩
theorem k71_mkF (W : World) (ok : Nat → Prop) (x : S71) : Kd.FK k71 W ok x [.int .i64 x.f0, .int .i64 x.f1] := fun W2 _ => k71_mk W2 x
def rd_T71 (xs : List S71) (i : Int) : S71 := xs.getD i.toNat z71
theorem at_T71 {w : World} {A : Option Addr} {n : Nat} {xs : List S71} (h : Kd.C k71 w A n xs) (i : Int) (h0 : 0 ≤ i) (h1 : i < n) : ∃ ad , A = some ad ∧ w.cell? (ad.add (i.toNat * 2)) = some (.int .i64 (rd_T71 xs i).f0) ∧ w.cell? ⟨(ad.add (i.toNat * 2)).block, (ad.add (i.toNat * 2)).off + 1, none⟩ = some (.int .i64 (rd_T71 xs i).f1) := by
  obtain ⟨ad, c, e, _, hK, hc0⟩ := Kd.C_get h z71 i h0 h1
  have hc : ∀ j u, c[j]? = some u → w.cell? (ad.add (i.toNat * 2 + j)) = some u := hc0
  obtain rfl := k71_open hK
  exact ⟨ad, e, hc 0 _ rfl, by rw [← add_field _ _ 1 (by omega)]; exact hc 1 _ rfl⟩
/-! #### struct type 73 -/
structure S73 where
  f0 : (List Int)
  f1 : Int
  f2 : Bool
  f3 : S71
def z73 : S73 := ⟨([] : List Int), (0 : Int), false, z71⟩
def k73 : Kd S73 := Kd.iso (Kd.pair (Kd.slice 5 (Kd.int .u8)) (Kd.pair (Kd.int .i64) (Kd.pair Kd.bool k71))) (fun x : S73 => (x.f0, x.f1, x.f2, x.f3))
theorem k73_open {w : World} {x : S73} {cs : List Value} (h : k73.K w x cs) : ∃ A0 c0, cs = [.slice A0 x.f0.length c0, .int .i64 x.f1, .bool x.f2, .int .i64 x.f3.f0, .int .i64 x.f3.f1] ∧ x.f0.length ≤ c0 ∧ (Kd.int .u8).C w A0 x.f0.length x.f0 := by
  obtain ⟨_, _, rfl, ⟨A0, c0, rfl, l0, g0⟩, ⟨_, _, rfl, rfl, ⟨_, _, rfl, rfl, s3⟩⟩⟩ := h
  obtain rfl := k71_open s3
  exact ⟨A0, c0, rfl, l0, g0⟩
theorem k73_openM {w : World} {base : Nat} {ok : Nat → Prop} {x : S73} {cs : List Value} (h : k73.M w base ok x cs) : ∃ v0, cs = [v0, .int .i64 x.f1, .bool x.f2, .int .i64 x.f3.f0, .int .i64 x.f3.f1] ∧ (Kd.int .u8).R 5 w base ok v0 x.f0 := by
  obtain ⟨_, _, rfl, ⟨v0, rfl, g0⟩, ⟨_, _, rfl, rfl, ⟨_, _, rfl, rfl, s3⟩⟩⟩ := h
  obtain rfl := k71_openM s3
  exact ⟨v0, rfl, g0⟩
theorem k73_mk (w : World) (x : S73) {A0 : Option Addr} {c0 : Nat} (l0 : x.f0.length ≤ c0) (g0 : (Kd.int .u8).C w A0 x.f0.length x.f0) : k73.K w x [.slice A0 x.f0.length c0, .int .i64 x.f1, .bool x.f2, .int .i64 x.f3.f0, .int .i64 x.f3.f1] := ⟨[.slice A0 x.f0.length c0], [.int .i64 x.f1, .bool x.f2, .int .i64 x.f3.f0, .int .i64 x.f3.f1], rfl, ⟨A0, c0, rfl, l0, g0⟩, ⟨[.int .i64 x.f1], [.bool x.f2, .int .i64 x.f3.f0, .int .i64 x.f3.f1], rfl, rfl, ⟨[.bool x.f2], [.int .i64 x.f3.f0, .int .i64 x.f3.f1], rfl, rfl, (k71_mk w x.f3 )⟩⟩⟩
theorem k73_mkM (w : World) (base : Nat) (ok : Nat → Prop) (x : S73) {v0 : Value} (g0 : (Kd.int .u8).R 5 w base ok v0 x.f0) : k73.M w base ok x [v0, .int .i64 x.f1, .bool x.f2, .int .i64 x.f3.f0, .int .i64 x.f3.f1] := ⟨[v0], [.int .i64 x.f1, .bool x.f2, .int .i64 x.f3.f0, .int .i64 x.f3.f1], rfl, ⟨v0, rfl, g0⟩, ⟨[.int .i64 x.f1], [.bool x.f2, .int .i64 x.f3.f0, .int .i64 x.f3.f1], rfl, rfl, ⟨[.bool x.f2], [.int .i64 x.f3.f0, .int .i64 x.f3.f1], rfl, rfl, (k71_mkM w base ok x.f3 )⟩⟩⟩
theorem k73_openF {W : World} {ok : Nat → Prop} {x : S73} {cs : List Value} (h : Kd.FK k73 W ok x cs) : ∃ A0 c0, cs = [.slice A0 x.f0.length c0, .int .i64 x.f1, .bool x.f2, .int .i64 x.f3.f0, .int .i64 x.f3.f1] ∧ x.f0.length ≤ c0 ∧ Kd.F (Kd.int .u8) W ok A0 x.f0.length x.f0 := by
  obtain ⟨A0, c0, rfl, l0, _⟩ := k73_open (Kd.FK_now h)
  exact ⟨A0, c0, rfl, l0, (fun W' hW => by obtain ⟨A0_, c0_, he, l0_, g0_⟩ := k73_open (h W' hW); injection (Option.some.inj (show some (Value.slice A0 x.f0.length c0) = some (Value.slice A0_ x.f0.length c0_) from congrArg (fun l => l[0]?) he)) with ha_ _ _; rw [ha_]; exact g0_)⟩
theorem k73_mkF (W : World) (ok : Nat → Prop) (x : S73) {A0 : Option Addr} {c0 : Nat} (l0 : x.f0.length ≤ c0) (g0 : Kd.F (Kd.int .u8) W ok A0 x.f0.length x.f0) : Kd.FK k73 W ok x [.slice A0 x.f0.length c0, .int .i64 x.f1, .bool x.f2, .int .i64 x.f3.f0, .int .i64 x.f3.f1] := fun W2 hW => k73_mk W2 x l0 (g0 W2 hW)
def rd_T73 (xs : List S73) (i : Int) : S73 := xs.getD i.toNat z73
theorem at_T73 {w : World} {A : Option Addr} {n : Nat} {xs : List S73} (h : Kd.C k73 w A n xs) (i : Int) (h0 : 0 ≤ i) (h1 : i < n) : ∃ ad A0 c0, A = some ad ∧ w.cell? (ad.add (i.toNat * 5)) = some (.slice A0 (rd_T73 xs i).f0.length c0) ∧ w.cell? ⟨(ad.add (i.toNat * 5)).block, (ad.add (i.toNat * 5)).off + 1, none⟩ = some (.int .i64 (rd_T73 xs i).f1) ∧ w.cell? ⟨(ad.add (i.toNat * 5)).block, (ad.add (i.toNat * 5)).off + 2, none⟩ = some (.bool (rd_T73 xs i).f2) ∧ w.cell? ⟨(ad.add (i.toNat * 5)).block, (ad.add (i.toNat * 5)).off + 3, none⟩ = some (.int .i64 (rd_T73 xs i).f3.f0) ∧ w.cell? ⟨(ad.add (i.toNat * 5)).block, (ad.add (i.toNat * 5)).off + 4, none⟩ = some (.int .i64 (rd_T73 xs i).f3.f1) ∧ (rd_T73 xs i).f0.length ≤ c0 ∧ (Kd.int .u8).C w A0 (rd_T73 xs i).f0.length (rd_T73 xs i).f0 := by
  obtain ⟨ad, c, e, _, hK, hc0⟩ := Kd.C_get h z73 i h0 h1
  have hc : ∀ j u, c[j]? = some u → w.cell? (ad.add (i.toNat * 5 + j)) = some u := hc0
  obtain ⟨A0, c0, rfl, l0, g0⟩ := k73_open hK
  exact ⟨ad, A0, c0, e, hc 0 _ rfl, by rw [← add_field _ _ 1 (by omega)]; exact hc 1 _ rfl, by rw [← add_field _ _ 2 (by omega)]; exact hc 2 _ rfl, by rw [← add_field _ _ 3 (by omega)]; exact hc 3 _ rfl, by rw [← add_field _ _ 4 (by omega)]; exact hc 4 _ rfl, l0, g0⟩
/-! #### struct type 77 -/
structure S77 where
  f0 : (List Int)
  f1 : Int
  f2 : Bool
  f3 : S65
def z77 : S77 := ⟨([] : List Int), (0 : Int), false, z65⟩
def k77 : Kd S77 := Kd.iso (Kd.pair (Kd.slice 5 (Kd.int .u8)) (Kd.pair (Kd.int .i64) (Kd.pair Kd.bool k65))) (fun x : S77 => (x.f0, x.f1, x.f2, x.f3))
theorem k77_open {w : World} {x : S77} {cs : List Value} (h : k77.K w x cs) : ∃ A0 c0, cs = [.slice A0 x.f0.length c0, .int .i64 x.f1, .bool x.f2, .int .i64 x.f3.f0, .int .i64 x.f3.f1] ∧ x.f0.length ≤ c0 ∧ (Kd.int .u8).C w A0 x.f0.length x.f0 := by
  obtain ⟨_, _, rfl, ⟨A0, c0, rfl, l0, g0⟩, ⟨_, _, rfl, rfl, ⟨_, _, rfl, rfl, s3⟩⟩⟩ := h
  obtain rfl := k65_open s3
  exact ⟨A0, c0, rfl, l0, g0⟩
theorem k77_openM {w : World} {base : Nat} {ok : Nat → Prop} {x : S77} {cs : List Value} (h : k77.M w base ok x cs) : ∃ v0, cs = [v0, .int .i64 x.f1, .bool x.f2, .int .i64 x.f3.f0, .int .i64 x.f3.f1] ∧ (Kd.int .u8).R 5 w base ok v0 x.f0 := by
  obtain ⟨_, _, rfl, ⟨v0, rfl, g0⟩, ⟨_, _, rfl, rfl, ⟨_, _, rfl, rfl, s3⟩⟩⟩ := h
  obtain rfl := k65_openM s3
  exact ⟨v0, rfl, g0⟩
theorem k77_mk (w : World) (x : S77) {A0 : Option Addr} {c0 : Nat} (l0 : x.f0.length ≤ c0) (g0 : (Kd.int .u8).C w A0 x.f0.length x.f0) : k77.K w x [.slice A0 x.f0.length c0, .int .i64 x.f1, .bool x.f2, .int .i64 x.f3.f0, .int .i64 x.f3.f1] := ⟨[.slice A0 x.f0.length c0], [.int .i64 x.f1, .bool x.f2, .int .i64 x.f3.f0, .int .i64 x.f3.f1], rfl, ⟨A0, c0, rfl, l0, g0⟩, ⟨[.int .i64 x.f1], [.bool x.f2, .int .i64 x.f3.f0, .int .i64 x.f3.f1], rfl, rfl, ⟨[.bool x.f2], [.int .i64 x.f3.f0, .int .i64 x.f3.f1], rfl, rfl, (k65_mk w x.f3 )⟩⟩⟩
theorem k77_mkM (w : World) (base : Nat) (ok : Nat → Prop) (x : S77) {v0 : Value} (g0 : (Kd.int .u8).R 5 w base ok v0 x.f0) : k77.M w base ok x [v0, .int .i64 x.f1, .bool x.f2, .int .i64 x.f3.f0, .int .i64 x.f3.f1] := ⟨[v0], [.int .i64 x.f1, .bool x.f2, .int .i64 x.f3.f0, .int .i64 x.f3.f1], rfl, ⟨v0, rfl, g0⟩, ⟨[.int .i64 x.f1], [.bool x.f2, .int .i64 x.f3.f0, .int .i64 x.f3.f1], rfl, rfl, ⟨[.bool x.f2], [.int .i64 x.f3.f0, .int .i64 x.f3.f1], rfl, rfl, (k65_mkM w base ok x.f3 )⟩⟩⟩
theorem k77_openF {W : World} {ok : Nat → Prop} {x : S77} {cs : List Value} (h : Kd.FK k77 W ok x cs) : ∃ A0 c0, cs = [.slice A0 x.f0.length c0, .int .i64 x.f1, .bool x.f2, .int .i64 x.f3.f0, .int .i64 x.f3.f1] ∧ x.f0.length ≤ c0 ∧ Kd.F (Kd.int .u8) W ok A0 x.f0.length x.f0 := by
  obtain ⟨A0, c0, rfl, l0, _⟩ := k77_open (Kd.FK_now h)
  exact ⟨A0, c0, rfl, l0, (fun W' hW => by obtain ⟨A0_, c0_, he, l0_, g0_⟩ := k77_open (h W' hW); injection (Option.some.inj (show some (Value.slice A0 x.f0.length c0) = some (Value.slice A0_ x.f0.length c0_) from congrArg (fun l => l[0]?) he)) with ha_ _ _; rw [ha_]; exact g0_)⟩
theorem k77_mkF (W : World) (ok : Nat → Prop) (x : S77) {A0 : Option Addr} {c0 : Nat} (l0 : x.f0.length ≤ c0) (g0 : Kd.F (Kd.int .u8) W ok A0 x.f0.length x.f0) : Kd.FK k77 W ok x [.slice A0 x.f0.length c0, .int .i64 x.f1, .bool x.f2, .int .i64 x.f3.f0, .int .i64 x.f3.f1] := fun W2 hW => k77_mk W2 x l0 (g0 W2 hW)
def rd_T77 (xs : List S77) (i : Int) : S77 := xs.getD i.toNat z77
theorem at_T77 {w : World} {A : Option Addr} {n : Nat} {xs : List S77} (h : Kd.C k77 w A n xs) (i : Int) (h0 : 0 ≤ i) (h1 : i < n) : ∃ ad A0 c0, A = some ad ∧ w.cell? (ad.add (i.toNat * 5)) = some (.slice A0 (rd_T77 xs i).f0.length c0) ∧ w.cell? ⟨(ad.add (i.toNat * 5)).block, (ad.add (i.toNat * 5)).off + 1, none⟩ = some (.int .i64 (rd_T77 xs i).f1) ∧ w.cell? ⟨(ad.add (i.toNat * 5)).block, (ad.add (i.toNat * 5)).off + 2, none⟩ = some (.bool (rd_T77 xs i).f2) ∧ w.cell? ⟨(ad.add (i.toNat * 5)).block, (ad.add (i.toNat * 5)).off + 3, none⟩ = some (.int .i64 (rd_T77 xs i).f3.f0) ∧ w.cell? ⟨(ad.add (i.toNat * 5)).block, (ad.add (i.toNat * 5)).off + 4, none⟩ = some (.int .i64 (rd_T77 xs i).f3.f1) ∧ (rd_T77 xs i).f0.length ≤ c0 ∧ (Kd.int .u8).C w A0 (rd_T77 xs i).f0.length (rd_T77 xs i).f0 := by
  obtain ⟨ad, c, e, _, hK, hc0⟩ := Kd.C_get h z77 i h0 h1
  have hc : ∀ j u, c[j]? = some u → w.cell? (ad.add (i.toNat * 5 + j)) = some u := hc0
  obtain ⟨A0, c0, rfl, l0, g0⟩ := k77_open hK
  exact ⟨ad, A0, c0, e, hc 0 _ rfl, by rw [← add_field _ _ 1 (by omega)]; exact hc 1 _ rfl, by rw [← add_field _ _ 2 (by omega)]; exact hc 2 _ rfl, by rw [← add_field _ _ 3 (by omega)]; exact hc 3 _ rfl, by rw [← add_field _ _ 4 (by omega)]; exact hc 4 _ rfl, l0, g0⟩
end Go.Proofs.Ytcjjmfpkhhdmlaa.G

namespace Go.Proofs.Ytcjjmfpkhhdmlaa.G
open Go.RowKit Go.Proofs.YtcjjmfpkhhdmlaaW.PrintWords Go.Proofs.YtcjjmfpkhhdmlaaW.PrintLast Go.Proofs.YtcjjmfpkhhdmlaaW.PrintMore
attribute [local go_sem] max2_int min2_int max_two min_two max_three min_three max_four min_four   -- for this text's walks alone
/-! ### laws_szIntS: function 103 -/
def laws_szIntS.f (l0 : List Int) (a1 : Int) : Option (Int) := if (wrap64 (a1 - (l0.length : Int))) < 0 then (some (-1)) else (some (wrap64 (a1 - (l0.length : Int))))
set_option maxHeartbeats 8000000 in
set_option maxRecDepth 100000 in
theorem laws_szIntS.calls (A0 : Option Addr) (c0 : Nat) (l0 : List Int) (a1 : Int) (r : Int) (w : World) (hr0 : Kd.C (Kd.int .i64) w A0 l0.length l0) (hc0 : l0.length ≤ c0) (h : laws_szIntS.f l0 a1 = some r) :
    Calls Try.prog 103 #[.slice A0 l0.length c0, .int .i64 a1] w fun e w' => e = .returned (.int .i64 r) ∧ Drawn0 w w' := by
  have HR0 := Aside0.mk hr0
  have HC0 := Aside0.mk hc0
  clear hr0 hc0
  have H : (if (wrap64 (a1 - (l0.length : Int))) < 0 then (some (-1)) else (some (wrap64 (a1 - (l0.length : Int))))) = some r := h
  clear h
  by_cases c3 : (wrap64 (a1 - (l0.length : Int))) < 0
  · rw [if_pos c3] at H
    have c3b0 : decide ((wrap64 (a1 - (l0.length : Int))) < 0) = true := decide_eq_true c3
    clear c3
    obtain rfl := Option.some.inj H
    go_enter Try.func103, Try.ntmps103
    go_wp2
    go_ret
    exact ⟨by first | rfl | (simp; done) | (simp [*]; done), by repeat (first | exact Drawn0.refl _ | apply Drawn0.step)⟩
  · rw [if_neg c3] at H
    have c3b0 : decide ((wrap64 (a1 - (l0.length : Int))) < 0) = false := decide_eq_false c3
    clear c3
    obtain rfl := Option.some.inj H
    go_enter Try.func103, Try.ntmps103
    go_wp2
    go_ret
    exact ⟨by first | rfl | (simp; done) | (simp [*]; done), by repeat (first | exact Drawn0.refl _ | apply Drawn0.step)⟩
end Go.Proofs.Ytcjjmfpkhhdmlaa.G

namespace Go.Proofs.Ytcjjmfpkhhdmlaa.G
open Go.RowKit Go.Proofs.YtcjjmfpkhhdmlaaW.PrintWords Go.Proofs.YtcjjmfpkhhdmlaaW.PrintLast Go.Proofs.YtcjjmfpkhhdmlaaW.PrintMore
attribute [local go_sem] max2_int min2_int max_two min_two max_three min_three max_four min_four   -- for this text's walks alone
/-! what several texts use -/
theorem S_put1 {α : Type} {d : Kd α} {e g n cap base : Nat} {W w1 : World} {xs : List α} {u : Value} {x' : α} (hd : d.sz = 1) (h : Kd.S d e W base (fun _ => True) (.slice (some ⟨g, 0, none⟩) n cap) xs) (hb : Below W.heap.size W w1) (z : α) (i : Int) (h0 : 0 ≤ i) (h1 : i < n)
    (hM : d.M w1 base (fun k => W.heap.size ≤ k) x' [u]) : Kd.S d e (w1.setCell ⟨g, i.toNat, none⟩ u) base (fun _ => True) (.slice (some ⟨g, 0, none⟩) n cap) (xs.set i.toNat x') := by
  have hg : g < W.heap.size := Kd.S_lt h g rfl
  have h2 : Kd.S d e w1 base (fun k => True ∧ ¬ W.heap.size ≤ k) (.slice (some ⟨g, 0, none⟩) n cap) xs := Kd.S_mono (Kd.S_old h hb) (fun k hk => ⟨trivial, Nat.not_le.2 hk.2⟩)
  obtain ⟨oki, c, hcl, hM0, hcc, hfr, hoki, hH⟩ := Kd.S_elem h2 z i h0 h1
  obtain ⟨q, rfl⟩ := List.length_eq_one_iff.1 (hcl.trans hd)
  have := Kd.S_seg (okg := fun k => W.heap.size ≤ k) (okp := fun k => W.heap.size ≤ k) hH h0 h1 (seg := [u]) (j := 0) (by simp [hd]) (x' := x') (by
    simpa using hM) (fun k hk => .inr hk) (fun k hk => ⟨trivial, by intro he; subst he; omega⟩)
  have h3 := this.1
  rw [hd, Nat.mul_one, Nat.add_zero] at h3
  exact h3
theorem S_cell {α : Type} {d : Kd α} {e g n cap base : Nat} {W : World} {ok : Nat → Prop} {xs : List α} (hd : d.sz = 1) (h : Kd.S d e W base ok (.slice (some ⟨g, 0, none⟩) n cap) xs) (z : α) (i : Int) (h0 : 0 ≤ i) (h1 : i < n) :
    (∃ u, W.cell? ⟨g, i.toNat, none⟩ = some u) ∧ W.frozen? ⟨g, i.toNat, none⟩ = false := by
  obtain ⟨oki, c, hcl, hM0, hcc, hfr, hoki, hH⟩ := Kd.S_elem h z i h0 h1
  rw [hd] at hcc hfr hcl
  obtain ⟨u, rfl⟩ := List.length_eq_one_iff.1 hcl
  exact ⟨⟨u, by have := hcc 0 u rfl; rwa [Nat.mul_one, Nat.add_zero] at this⟩, by have := hfr 0; rwa [Nat.mul_one, Nat.add_zero] at this⟩
theorem fill_set {α : Type} (l : List α) (z : α) (i : Nat) (hi : i < l.length) : (l.take i ++ List.replicate (l.length - i) z).set i l[i] = l.take (i + 1) ++ List.replicate (l.length - (i + 1)) z := by
  rw [show l.length - i = (l.length - (i + 1)) + 1 by omega, List.replicate_succ, List.take_succ_eq_append_getElem hi, List.append_assoc]
  rw [List.set_append_right _ _ (by simp; omega)]
  simp [Nat.min_eq_left (Nat.le_of_lt hi)]
/-! rounds -/
theorem Ev.ip {α : Type} {c : Prop} [Decidable c] {g f : Nat → Option α} {r : α} (hc : c) (h : Ev g r) : Ev (fun n => if c then g n else f n) r := by
  obtain ⟨K, h⟩ := h
  exact ⟨K, fun n hn => by show (if c then g n else f n) = some r; rw [if_pos hc]; exact h n hn⟩
theorem Ev.ng {α : Type} {c : Prop} [Decidable c] {g f : Nat → Option α} {r : α} (hc : ¬ c) (h : Ev f r) : Ev (fun n => if c then g n else f n) r := by
  obtain ⟨K, h⟩ := h
  exact ⟨K, fun n hn => by show (if c then g n else f n) = some r; rw [if_neg hc]; exact h n hn⟩
theorem Ev.c {α : Type} {x : Option α} {r : α} (h : x = some r) : Ev (fun _ => x) r := ⟨0, fun _ _ => h⟩
theorem Ev.eq {α : Type} {g : Nat → Option α} {r r' : α} (h : Ev g r) (e : r = r') : Ev g r' := e ▸ h
theorem rd_nat (l : List Int) (i : Nat) (h : i < l.length) : rd l (i : Int) = l[i] := by simp [rd, h]
theorem wrap_succ (i : Nat) (h : i < 9223372036854775807) : wrap64 ((i : Int) + 1) = ((i + 1 : Nat) : Int) := by unfold wrap64; omega
theorem wrap_in (x : Int) (h1 : -9223372036854775808 ≤ x) (h2 : x ≤ 9223372036854775807) : wrap64 x = x := by unfold wrap64; omega
/-- all numbers lie between two others -/
def allW (lo hi : Int) (l : List Int) : Bool := l.all fun x => decide (lo ≤ x) && decide (x ≤ hi)
/-- a pixel -/
def isPx (px : List Int) : Bool := decide (px.length = 3) && allW 0 255 px
/-- the sum of the squares of the three differences -/
def dist (c px : List Int) : Int := (rd c 0 - rd px 0) * (rd c 0 - rd px 0) + (rd c 1 - rd px 1) * (rd c 1 - rd px 1) + (rd c 2 - rd px 2) * (rd c 2 - rd px 2)
/-- the first of the nearest colours, from one on -/
def nearGo (px : List Int) : List (List Int) → Int → Int → Int → Int
  | [], _, best, _ => best
  | c :: cs, i, best, least => if least < 0 ∨ dist c px < least then nearGo px cs (i + 1) i (dist c px) else nearGo px cs (i + 1) best least
theorem sq_bound (d : Int) (h1 : -255 ≤ d) (h2 : d ≤ 255) : 0 ≤ d * d ∧ d * d ≤ 65025 := by
  have e : d * d = ((d.natAbs * d.natAbs : Nat) : Int) := by rw [Int.natCast_mul, Int.natAbs_mul_self']
  have h3 : d.natAbs ≤ 255 := by omega
  have h4 : d.natAbs * d.natAbs ≤ 255 * 255 := Nat.mul_le_mul h3 h3
  omega
theorem isPx_three {px : List Int} (h : isPx px = true) : ∃ a b c, px = [a, b, c] ∧ 0 ≤ a ∧ a ≤ 255 ∧ 0 ≤ b ∧ b ≤ 255 ∧ 0 ≤ c ∧ c ≤ 255 := by
  unfold isPx allW at h
  rw [Bool.and_eq_true, decide_eq_true_eq, List.all_eq_true] at h
  obtain ⟨hl, ha⟩ := h
  match px, hl with
  | [a, b, c], _ =>
    have h1 := ha a (by simp)
    have h2 := ha b (by simp)
    have h3 := ha c (by simp)
    simp only [Bool.and_eq_true, decide_eq_true_eq] at h1 h2 h3
    exact ⟨a, b, c, rfl, h1.1, h1.2, h2.1, h2.2, h3.1, h3.2⟩
theorem sq_step (s a p : Int) (h0 : 0 ≤ s) (h1 : s ≤ 130050) (ha : 0 ≤ a) (ha' : a ≤ 255) (hp : 0 ≤ p) (hp' : p ≤ 255) : wrap64 (s + wrap64 (wrap64 (a - p) * wrap64 (a - p))) = s + (a - p) * (a - p) := by
  have h := sq_bound (a - p) (by omega) (by omega)
  rw [wrap_in (a - p) (by omega) (by omega), wrap_in ((a - p) * (a - p)) (by omega) (by omega), wrap_in _ (by omega) (by omega)]
theorem w64_1 : wrap64 (0 + 1) = 1 := by unfold wrap64; omega
theorem w64_2 : wrap64 (1 + 1) = 2 := by unfold wrap64; omega
theorem w64_3 : wrap64 (2 + 1) = 3 := by unfold wrap64; omega
/-- colours -/
def isCols (l : List (List Int)) : Bool := decide (1 ≤ l.length) && decide (l.length ≤ 256) && l.all isPx
theorem isCols_all {l : List (List Int)} (h : isCols l = true) : ∀ c ∈ l, isPx c = true := by
  unfold isCols at h; simp only [Bool.and_eq_true, List.all_eq_true] at h; exact h.2
theorem isCols_len {l : List (List Int)} (h : isCols l = true) : 1 ≤ l.length ∧ l.length ≤ 256 := by
  unfold isCols at h; simp only [Bool.and_eq_true, decide_eq_true_eq] at h; exact h.1
/-- numbers that rise by one -/
def rising (a : Int) : Nat → List Int
  | 0 => []
  | n + 1 => a :: rising (a + 1) n
theorem rising_length (a : Int) (n : Nat) : (rising a n).length = n := by
  induction n generalizing a with
  | zero => rfl
  | succ n ih => simp [rising, ih]
theorem rising_snoc (a : Int) (n : Nat) : rising a (n + 1) = rising a n ++ [a + n] := by
  induction n generalizing a with
  | zero => simp [rising]
  | succ n ih => rw [rising, ih]; simp [rising, Int.add_assoc, Int.add_comm 1]
theorem rising_get (a : Int) (n i : Nat) (h : i < (rising a n).length) : (rising a n)[i] = a + i := by
  induction n generalizing a i with
  | zero => simp [rising] at h
  | succ n ih =>
    cases i with
    | zero => simp [rising]
    | succ i => simp only [rising, List.getElem_cons_succ]; rw [ih]; omega
def risingB (a : Int) (n : Nat) : List Int := (rising a n).map (· % 256)
theorem risingB_length (a : Int) (n : Nat) : (risingB a n).length = n := by simp [risingB, rising_length]
theorem risingB_snoc (a : Int) (n : Nat) : risingB a (n + 1) = risingB a n ++ [(a + n) % 256] := by simp [risingB, rising_snoc]
theorem wf_u8 {x : Int} (h : (Lit.int .u8 x).wf = true) : 0 ≤ x ∧ x ≤ 255 := by
  simp only [Lit.wf, Bool.and_eq_true, decide_eq_true_eq] at h
  have h1 : IntKind.u8.min = 0 := rfl
  have h2 : IntKind.u8.max = 255 := rfl
  omega
theorem wf_i64 {x : Int} (h : (Lit.int .i64 x).wf = true) : -9223372036854775808 ≤ x ∧ x ≤ 9223372036854775807 := by
  simp only [Lit.wf, Bool.and_eq_true, decide_eq_true_eq] at h
  have h1 : IntKind.i64.min = -9223372036854775808 := rfl
  have h2 : IntKind.i64.max = 9223372036854775807 := rfl
  omega
end Go.Proofs.Ytcjjmfpkhhdmlaa.G

namespace Go.Proofs.Ytcjjmfpkhhdmlaa.G
open Go.RowKit Go.Proofs.YtcjjmfpkhhdmlaaW.PrintWords Go.Proofs.YtcjjmfpkhhdmlaaW.PrintLast Go.Proofs.YtcjjmfpkhhdmlaaW.PrintMore
attribute [local go_sem] max2_int min2_int max_two min_two max_three min_three max_four min_four   -- for this text's walks alone
/-! ### laws_szIntSS: function 35 -/
def laws_szIntSS.l0 : Nat → List (List Int) → Int → Int → Option (Int)
  | 0, _, _, _ => none
  | k + 1, x0, x1, x5 => if x5 < (x0.length : Int) then (if 0 ≤ x5 then ((laws_szIntS.f (rd_L3 x0 x5) x1).bind fun t362 => (if t362 < 0 then (some (-1)) else (laws_szIntSS.l0 k x0 t362 (wrap64 (x5 + 1))))) else (none)) else (some x1)
def laws_szIntSS.f (k : Nat) (l0 : List (List Int)) (a1 : Int) : Option (Int) := if (wrap64 (a1 - (l0.length : Int))) < 0 then (some (-1)) else (laws_szIntSS.l0 k l0 (wrap64 (a1 - (l0.length : Int))) 0)
theorem laws_szIntSS.mono_l : ∀ k, (∀ y0 y1 y2, LeO (laws_szIntSS.l0 k y0 y1 y2) (laws_szIntSS.l0 (k + 1) y0 y1 y2))
  | 0 => fun _ _ _ r h => by simp [laws_szIntSS.l0] at h
  | k + 1 => by
    have ih0 := laws_szIntSS.mono_l k
    · intro y0 y1 y2
      unfold laws_szIntSS.l0
      repeat' first
      | (with_reducible exact ih0 _ _ _)
      | (with_reducible exact LeO.refl _)
      | (with_reducible exact LeO.none _)
      | (with_reducible refine LeO.ite ?_ ?_)
      | (with_reducible refine LeO.bind ?_ (fun _ => ?_))
      | exact ih0 _ _ _
      | exact LeO.none _
      | refine LeO.ite ?_ ?_
      | refine LeO.bind ?_ (fun _ => ?_)
theorem laws_szIntSS.mono : ∀ a0 a1 k, LeO (laws_szIntSS.f k a0 a1) (laws_szIntSS.f (k + 1) a0 a1) := by
  intro a0 a1 k
  have ih0 := laws_szIntSS.mono_l k
  unfold laws_szIntSS.f
  repeat' first
      | (with_reducible exact ih0 _ _ _)
      | (with_reducible exact LeO.refl _)
      | (with_reducible exact LeO.none _)
      | (with_reducible refine LeO.ite ?_ ?_)
      | (with_reducible refine LeO.bind ?_ (fun _ => ?_))
      | exact ih0 _ _ _
      | exact LeO.none _
      | refine LeO.ite ?_ ?_
      | refine LeO.bind ?_ (fun _ => ?_)
set_option maxHeartbeats 8000000 in
set_option maxRecDepth 100000 in
theorem laws_szIntSS.calls (k : Nat) (A0 : Option Addr) (c0 : Nat) (l0 : List (List Int)) (a1 : Int) (r : Int) (w : World) (hr0 : Kd.C (Kd.slice 3 (Kd.int .i64)) w A0 l0.length l0) (hc0 : l0.length ≤ c0) (h : laws_szIntSS.f k l0 a1 = some r) :
    Calls Try.prog 35 #[.slice A0 l0.length c0, .int .i64 a1] w fun e w' => e = .returned (.int .i64 r) ∧ Drawn0 w w' := by
  have HR0 := Aside0.mk hr0
  have HC0 := Aside0.mk hc0
  clear hr0 hc0
  have H : (if (wrap64 (a1 - (l0.length : Int))) < 0 then (some (-1)) else (laws_szIntSS.l0 k l0 (wrap64 (a1 - (l0.length : Int))) 0)) = some r := h
  clear h
  by_cases c3 : (wrap64 (a1 - (l0.length : Int))) < 0
  · rw [if_pos c3] at H
    have c3b0 : decide ((wrap64 (a1 - (l0.length : Int))) < 0) = true := decide_eq_true c3
    clear c3
    obtain rfl := Option.some.inj H
    go_enter Try.func35, Try.ntmps35
    go_wp2
    go_ret
    exact ⟨by first | rfl | (simp; done) | (simp [*]; done), by repeat (first | exact Drawn0.refl _ | apply Drawn0.step)⟩
  · rw [if_neg c3] at H
    have c3b0 : decide ((wrap64 (a1 - (l0.length : Int))) < 0) = false := decide_eq_false c3
    clear c3
    have H' := Aside0.mk H
    clear H
    go_enter Try.func35, Try.ntmps35
    go_wp2
    go_loopg [1, 5] k (fun kq v1 v5 w' => ∃ (x1_1 : Int) (x5_1 : Int), v1 = .int .i64 x1_1 ∧ v5 = .int .i64 x5_1 ∧ Aside0 (laws_szIntSS.l0 kq l0 x1_1 x5_1 = some r) ∧ Aside0 (kq ≤ k) ∧ Drawn0 w w')
    case atStart => exact ⟨(wrap64 (a1 - (l0.length : Int))), (0), (by first | rfl | (simp; done) | (simp [*]; done)), (by first | rfl | (simp; done) | (simp [*]; done)), H', ⟨Nat.le_refl _⟩, by repeat (first | exact Drawn0.refl _ | apply Drawn0.step)⟩
    case round =>
      clear H'
      try clear p2
      try clear c3
      try clear c3b0
      obtain ⟨x1_1, x5_1, rfl, rfl, HA, HK1, ⟨m1, rfl⟩⟩ := hrel
      cases gk with
      | zero => exact absurd HA.out (by simp [laws_szIntSS.l0])
      | succ k1 =>
        have H := HA.out
        clear HA
        simp only [laws_szIntSS.l0] at H
        by_cases c4 : x5_1 < (l0.length : Int)
        · rw [if_pos c4] at H
          have c4b0 : decide (x5_1 < (l0.length : Int)) = true := decide_eq_true c4
          clear c4
          by_cases c5 : 0 ≤ x5_1
          · rw [if_pos c5] at H
            have c5b0 : decide (0 ≤ x5_1) = true := decide_eq_true c5
            clear c5
            replace H := Option.bind_eq_some_iff.mp H
            obtain ⟨t362, A60, H⟩ := H
            replace H : (if t362 < 0 then (some (-1)) else (laws_szIntSS.l0 k1 l0 t362 (wrap64 (x5_1 + 1)))) = some r := H
            have A6 := Aside0.mk A60
            clear A60
            by_cases c7 : t362 < 0
            · rw [if_pos c7] at H
              have c7b0 : decide (t362 < 0) = true := decide_eq_true c7
              clear c7
              obtain rfl := Option.some.inj H
              have p361 : 0 ≤ (x5_1 : Int) := of_decide_eq_true (by first | (with_reducible assumption) | assumption)
              have q361 : x5_1 < (l0.length : Int) := of_decide_eq_true (by first | (with_reducible assumption) | assumption)
              obtain ⟨ad361, A361_0, c361_0, e361, hx361_0, hl361_0, hi361_0⟩ := at_L3 HR0.out x5_1 p361 q361
              cases e361
              have HR361_0 := Aside0.mk hi361_0
              have HC361_0 := Aside0.mk hl361_0
              clear hi361_0 hl361_0
              replace p361 := eq_true p361
              replace q361 := eq_true q361
              go_wp2_with (first | ((with_reducible refine gate_callee (f := 103) rfl ?_); refine goesL_ (some 23) rfl rfl Try.func103 (by kernel_rfl) rfl #[.slice A361_0 (rd_L3 l0 x5_1).length c361_0, .int .i64 x1_1] rfl (by (try simp only [List.map_toArray, List.map_cons, List.map_nil]); first | done | rfl | (simp only [List.length_drop, List.length_take]; rfl)) ?_; (with_reducible refine (laws_szIntS.calls _ _ (rd_L3 l0 x5_1) x1_1 t362 _ ?side1 ?side2 A6.out).mono ?_); (case side1 => repeat (first | exact HR361_0.out | (with_reducible refine Kd.C_alloc ?_ _) | (with_reducible refine Kd.C_drewN ?_ _) | (with_reducible refine Kd.C_drew ?_))); (case side2 => exact HC361_0.out); rintro e w' ⟨rfl, ⟨nd, rfl⟩⟩; refine ⟨_, rfl, ?_⟩))
              go_ret
              exact ⟨by first | rfl | (simp; done) | (simp [*]; done), by repeat (first | exact Drawn0.refl _ | apply Drawn0.step)⟩
            · rw [if_neg c7] at H
              have c7b0 : decide (t362 < 0) = false := decide_eq_false c7
              clear c7
              have H' := Aside0.mk H
              clear H
              have p361 : 0 ≤ (x5_1 : Int) := of_decide_eq_true (by first | (with_reducible assumption) | assumption)
              have q361 : x5_1 < (l0.length : Int) := of_decide_eq_true (by first | (with_reducible assumption) | assumption)
              obtain ⟨ad361, A361_0, c361_0, e361, hx361_0, hl361_0, hi361_0⟩ := at_L3 HR0.out x5_1 p361 q361
              cases e361
              have HR361_0 := Aside0.mk hi361_0
              have HC361_0 := Aside0.mk hl361_0
              clear hi361_0 hl361_0
              replace p361 := eq_true p361
              replace q361 := eq_true q361
              go_wp2_with (first | ((with_reducible refine gate_callee (f := 103) rfl ?_); refine goesL_ (some 23) rfl rfl Try.func103 (by kernel_rfl) rfl #[.slice A361_0 (rd_L3 l0 x5_1).length c361_0, .int .i64 x1_1] rfl (by (try simp only [List.map_toArray, List.map_cons, List.map_nil]); first | done | rfl | (simp only [List.length_drop, List.length_take]; rfl)) ?_; (with_reducible refine (laws_szIntS.calls _ _ (rd_L3 l0 x5_1) x1_1 t362 _ ?side1 ?side2 A6.out).mono ?_); (case side1 => repeat (first | exact HR361_0.out | (with_reducible refine Kd.C_alloc ?_ _) | (with_reducible refine Kd.C_drewN ?_ _) | (with_reducible refine Kd.C_drew ?_))); (case side2 => exact HC361_0.out); rintro e w' ⟨rfl, ⟨nd, rfl⟩⟩; refine ⟨_, rfl, ?_⟩))
              go_roundg k1
              case measure => have := HK1.out; omega
              case rel => exact ⟨(t362), (wrap64 (x5_1 + 1)), (by first | rfl | (simp; done) | (simp [*]; done)), (by first | rfl | (simp; done) | (simp [*]; done)), H', ⟨by have := HK1.out; omega⟩, by repeat (first | exact Drawn0.refl _ | apply Drawn0.step)⟩
          · rw [if_neg c5] at H
            exact absurd H (by simp)
        · rw [if_neg c4] at H
          have c4b0 : decide (x5_1 < (l0.length : Int)) = false := decide_eq_false c4
          clear c4
          obtain rfl := Option.some.inj H
          go_wp2
          go_ret
          exact ⟨by first | rfl | (simp; done) | (simp [*]; done), by repeat (first | exact Drawn0.refl _ | apply Drawn0.step)⟩
theorem laws_szIntS.val (l : List Int) (a : Int) (h0 : 0 ≤ a) (h1 : a ≤ 1048576) (hl : l.length ≤ 9223372036854775807) : ∃ r, laws_szIntS.f l a = some r ∧ r ≤ a ∧ (0 ≤ r → (l.length : Int) ≤ a) := by
  unfold laws_szIntS.f
  rw [wrap_in _ (by omega) (by omega)]
  by_cases h : a - (l.length : Int) < 0
  · exact ⟨_, if_pos h, by omega, by omega⟩
  · exact ⟨_, if_neg h, by omega, by omega⟩
theorem laws_szIntSS.ev (l : List (List Int)) (a : Int) (h0 : 0 ≤ a) (h1 : a ≤ 1048576) (hl : l.length ≤ 9223372036854775807) (hx : ∀ x ∈ l, x.length ≤ 9223372036854775807) : ∃ r, Ev (fun k => laws_szIntSS.f k l a) r ∧ r ≤ a ∧ (0 ≤ r → l.length ≤ 1048576 ∧ ∀ x ∈ l, x.length ≤ 1048576) := by
  unfold laws_szIntSS.f
  rw [wrap_in _ (by omega) (by omega)]
  by_cases h : a - (l.length : Int) < 0
  · exact ⟨_, Ev.ip h (Ev.now _), by omega, by omega⟩
  · have key : ∀ d i : Nat, ∀ b : Int, l.length - i = d → i ≤ l.length → 0 ≤ b → b ≤ 1048576 → ∃ r, Ev (fun k => laws_szIntSS.l0 k l b (i : Int)) r ∧ r ≤ b ∧ (0 ≤ r → ∀ x ∈ l.drop i, x.length ≤ 1048576) := by
      intro d
      induction d with
      | zero =>
        intro i b hd hi hb0 hb1
        exact ⟨b, Ev.step (fun _ => by rw [laws_szIntSS.l0]) (Ev.ng (by omega) (Ev.now _)), by omega, fun _ x hx => by rw [List.drop_of_length_le (by omega)] at hx; cases hx⟩
      | succ d ih =>
        intro i b hd hi hb0 hb1
        have hlt : i < l.length := by omega
        obtain ⟨q, hq, hqb, hq0⟩ := laws_szIntS.val l[i] b hb0 hb1 (hx _ (List.getElem_mem _))
        by_cases hneg : q < 0
        · refine ⟨-1, Ev.step (fun _ => by rw [laws_szIntSS.l0]) (Ev.ip (by omega) (Ev.ip (by omega) ?_)), by omega, by omega⟩
          rw [show rd_L3 l (i : Int) = l[i] by simp [rd_L3, hlt]]
          exact Ev.bind (Ev.c hq) (Ev.ip hneg (Ev.now _))
        · obtain ⟨r, hr, hrb, hr0⟩ := ih (i + 1) q (by omega) (by omega) (by omega) (by omega)
          refine ⟨r, Ev.step (fun _ => by rw [laws_szIntSS.l0]) (Ev.ip (by omega) (Ev.ip (by omega) ?_)), by omega, fun h0r x hxm => ?_⟩
          · rw [show rd_L3 l (i : Int) = l[i] by simp [rd_L3, hlt], wrap_succ i (by omega)]
            exact Ev.bind (Ev.c hq) (Ev.ng hneg hr)
          · rw [List.drop_eq_getElem_cons hlt] at hxm
            rcases List.mem_cons.1 hxm with rfl | hxm
            · have := hq0 (by omega); omega
            · exact hr0 h0r x hxm
    obtain ⟨r, hr, hrb, hr0⟩ := key _ 0 (a - l.length) rfl (by omega) (by omega) (by omega)
    refine ⟨r, Ev.ng h hr, by omega, fun h0r => ⟨by omega, ?_⟩⟩
    simpa using hr0 h0r
end Go.Proofs.Ytcjjmfpkhhdmlaa.G

namespace Go.Proofs.Ytcjjmfpkhhdmlaa.G
open Go.RowKit Go.Proofs.YtcjjmfpkhhdmlaaW.PrintWords Go.Proofs.YtcjjmfpkhhdmlaaW.PrintLast Go.Proofs.YtcjjmfpkhhdmlaaW.PrintMore
attribute [local go_sem] max2_int min2_int max_two min_two max_three min_three max_four min_four   -- for this text's walks alone
/-! ### laws_toIntS: function 16 -/
def laws_toIntS.l0 : Nat → List Int → List Int → Int → Option (List Int)
  | 0, _, _, _ => none
  | k + 1, x0, x3, x4 => if x4 < (x0.length : Int) then (if 0 ≤ x4 then (if x4 < (x3.length : Int) then (laws_toIntS.l0 k x0 (x3.set (x4 : Int).toNat (rd x0 x4)) (wrap64 (x4 + 1))) else (none)) else (none)) else (some x3)
def laws_toIntS.f (k : Nat) (l0 : List Int) : Option (List Int) := if 0 ≤ (l0.length : Int) then (if ((l0.length : Int) : Int).toNat ≤ 35184372088832 then (laws_toIntS.l0 k l0 (List.replicate ((l0.length : Int) : Int).toNat 0) 0) else (none)) else (none)
theorem laws_toIntS.mono_l : ∀ k, (∀ y0 y1 y2, LeO (laws_toIntS.l0 k y0 y1 y2) (laws_toIntS.l0 (k + 1) y0 y1 y2))
  | 0 => fun _ _ _ r h => by simp [laws_toIntS.l0] at h
  | k + 1 => by
    have ih0 := laws_toIntS.mono_l k
    · intro y0 y1 y2
      unfold laws_toIntS.l0
      repeat' first
      | (with_reducible exact ih0 _ _ _)
      | (with_reducible exact LeO.refl _)
      | (with_reducible exact LeO.none _)
      | (with_reducible refine LeO.ite ?_ ?_)
      | (with_reducible refine LeO.bind ?_ (fun _ => ?_))
      | exact ih0 _ _ _
      | exact LeO.none _
      | refine LeO.ite ?_ ?_
      | refine LeO.bind ?_ (fun _ => ?_)
theorem laws_toIntS.mono : ∀ a0 k, LeO (laws_toIntS.f k a0) (laws_toIntS.f (k + 1) a0) := by
  intro a0 k
  have ih0 := laws_toIntS.mono_l k
  unfold laws_toIntS.f
  repeat' first
      | (with_reducible exact ih0 _ _ _)
      | (with_reducible exact LeO.refl _)
      | (with_reducible exact LeO.none _)
      | (with_reducible refine LeO.ite ?_ ?_)
      | (with_reducible refine LeO.bind ?_ (fun _ => ?_))
      | exact ih0 _ _ _
      | exact LeO.none _
      | refine LeO.ite ?_ ?_
      | refine LeO.bind ?_ (fun _ => ?_)
set_option maxHeartbeats 8000000 in
set_option maxRecDepth 100000 in
theorem laws_toIntS.calls (k : Nat) (A0 : Option Addr) (c0 : Nat) (l0 : List Int) (r : List Int) (w : World) (hr0 : Kd.C (Kd.int .i64) w A0 l0.length l0) (hc0 : l0.length ≤ c0) (h : laws_toIntS.f k l0 = some r) :
    Calls Try.prog 16 #[.slice A0 l0.length c0] w fun e w' => ∃ v0_ : Value, e = .returned (v0_) ∧ Kd.R (Kd.int .i64) 3 w' w.heap.size (fun _ => True) v0_ r ∧ Below w.heap.size w w' := by
  have HR0 := Aside0.mk hr0
  have HC0 := Aside0.mk hc0
  clear hr0 hc0
  have HB := Aside0.mk (Below.refl w.heap.size w)
  have H : (if 0 ≤ (l0.length : Int) then (if ((l0.length : Int) : Int).toNat ≤ 35184372088832 then (laws_toIntS.l0 k l0 (List.replicate ((l0.length : Int) : Int).toNat 0) 0) else (none)) else (none)) = some r := h
  clear h
  by_cases c2 : 0 ≤ (l0.length : Int)
  · rw [if_pos c2] at H
    have c2b0 := eq_true c2
    have c2b1 : decide (0 ≤ (l0.length : Int)) = true := decide_eq_true c2
    clear c2
    by_cases c3 : ((l0.length : Int) : Int).toNat ≤ 35184372088832
    · rw [if_pos c3] at H
      have c3b0 := eq_true c3
      have c3b1 : decide (((l0.length : Int) : Int).toNat ≤ 35184372088832) = true := decide_eq_true c3
      clear c3
      obtain ⟨y120, hy120⟩ : ∃ y_ : List Int, y_ = (List.replicate ((l0.length : Int) : Int).toNat 0) := ⟨_, rfl⟩
      replace H : (laws_toIntS.l0 k l0 y120 0) = some r := by first | (rw [hy120]; with_reducible exact H) | (have H2_ := (Option.bind_some _ _).symm.trans H; rw [hy120]; with_reducible exact H2_) | (have H2_ := (Option.bind_some _ _).symm.trans H; with_reducible exact H2_) | with_reducible exact H | (rw [hy120]; exact H) | exact H
      have Ny120 := Aside0.mk hy120
      clear hy120
      have H' := Aside0.mk H
      clear H
      go_enter Try.func16, Try.ntmps16
      go_wp2_with (first | ((with_reducible refine gate_dst (N := 7) rfl ?_); refine Kd.R_make (Kd.int .i64) _ 3 rfl (N := 7) rfl 22 _ _ rfl (l0.length : Int) rfl rfl Try.underlying22 (.int .i64 0) 8 info3 rfl (by decide) (by omega) 0 (ok := fun _ => True) (okp := fun _ => True) rfl (fun _ hk => hk) trivial (of_decide_eq_true (by first | (with_reducible assumption) | assumption)) (Nat.le_trans (Nat.mul_le_mul_right _ (of_decide_eq_true (by first | (with_reducible assumption) | assumption) : (l0.length : Int).toNat ≤ 35184372088832)) (by omega)) (Below.refl _ _) (Nat.le_refl _) ?_; intro v121 w4 ho5 hb hg_ hnew_; clear hg_ hnew_; (first | rw [← Ny120.out] at ho5 | (simp only [Int.reduceToNat] at ho5; rw [← Ny120.out] at ho5)); have n0_ := Aside0.mk (Kd.R_lower ho5 (below_size (by repeat (first | (with_reducible first | exact HB.out | apply below_alloc | apply pw_below_drewN | apply below_drew1) | exact HB.out)))); have n1_ := Aside0.mk (below_step (by repeat (first | (with_reducible first | exact HB.out | apply below_alloc | apply pw_below_drewN | apply below_drew1) | exact HB.out)) hb); clear HB; have HO122 := n0_; have HB := n1_; clear n0_ n1_; clear hb ho5))
      go_loopg [4] k (fun kq v4 w' => ∃ (x3_1 : List Int) (x4_1 : Int), v4 = .int .i64 x4_1 ∧ Aside0 (laws_toIntS.l0 kq l0 x3_1 x4_1 = some r) ∧ Aside0 (kq ≤ k) ∧ Aside0 (Kd.R (Kd.int .i64) 3 w' w.heap.size (fun _ => True) v121 x3_1) ∧ Aside0 (Below w.heap.size w w'))
      case atStart => exact ⟨(y120), (0), (by first | rfl | (simp; done) | (simp [*]; done)), H', ⟨Nat.le_refl _⟩, ⟨by (with_reducible repeat (first | apply Kd.R_alloc | apply Kd.R_drewN | apply Kd.R_drew)); exact HO122.out⟩, ⟨by repeat (first | (with_reducible first | exact HB.out | apply below_alloc | apply pw_below_drewN | apply below_drew1) | exact HB.out)⟩⟩
      case round =>
        clear H'
        try clear c1
        try clear c2
        try clear c2b0
        try clear c2b1
        try clear p2
        try clear c3
        try clear c3b0
        try clear c3b1
        obtain ⟨x3_1, x4_1, rfl, HA, HK1, HO_3, HB⟩ := hrel
        cases gk with
        | zero => exact absurd HA.out (by simp [laws_toIntS.l0])
        | succ k1 =>
          have H := HA.out
          clear HA
          simp only [laws_toIntS.l0] at H
          by_cases c6 : x4_1 < (l0.length : Int)
          · rw [if_pos c6] at H
            have c6b0 : decide (x4_1 < (l0.length : Int)) = true := decide_eq_true c6
            clear c6
            by_cases c7 : 0 ≤ x4_1
            · rw [if_pos c7] at H
              have c7b0 : decide (0 ≤ x4_1) = true := decide_eq_true c7
              clear c7
              by_cases c8 : x4_1 < (x3_1.length : Int)
              · rw [if_pos c8] at H
                have c8b0 : decide (x4_1 < (x3_1.length : Int)) = true := decide_eq_true c8
                clear c8
                obtain ⟨y124, hy124⟩ : ∃ y_ : List Int, y_ = (x3_1.set (x4_1 : Int).toNat (rd l0 x4_1)) := ⟨_, rfl⟩
                replace H : (laws_toIntS.l0 k1 l0 y124 (wrap64 (x4_1 + 1))) = some r := by first | (rw [hy124]; with_reducible exact H) | (have H2_ := (Option.bind_some _ _).symm.trans H; rw [hy124]; with_reducible exact H2_) | (have H2_ := (Option.bind_some _ _).symm.trans H; with_reducible exact H2_) | with_reducible exact H | (rw [hy124]; exact H) | exact H
                have Ny124 := Aside0.mk hy124
                clear hy124
                have H' := Aside0.mk H
                clear H
                have p123 : 0 ≤ (x4_1 : Int) := of_decide_eq_true (by first | (with_reducible assumption) | assumption)
                have q123 : x4_1 < (l0.length : Int) := of_decide_eq_true (by first | (with_reducible assumption) | assumption)
                obtain ⟨ad123, e123, hx123_0⟩ := Kd.at_int HR0.out x4_1 p123 q123
                cases e123
                replace hx123_0 := (HB.out.cell (World.block_lt_of_cell? w _ hx123_0)).trans hx123_0
                replace p123 := eq_true p123
                replace q123 := eq_true q123
                have p9 : 0 ≤ (x4_1 : Int) := of_decide_eq_true (by first | (with_reducible assumption) | assumption)
                have q9 : (x4_1 : Int) < ((x3_1.length : Int) : Int) := of_decide_eq_true (by first | (with_reducible assumption) | assumption)
                obtain ⟨go9, co9, eo9, gb9, gl9, cl9, HG9⟩ := Kd.R_form HO_3.out (by omega)
                (first | cases eo9 | (injection eo9 with ea_ en_ ec_; (first | subst ea_ | (injection ea_ with ea_; subst ea_)); subst ec_; clear en_))
                have GB9 := Aside0.mk gb9
                have GG9 := Aside0.mk HG9
                clear gb9 gl9 HG9
                obtain ⟨hx9_0, hf9_0⟩ := Kd.R_celln 0 HO_3.out (x4_1 : Int) p9 q9
                replace p9 := eq_true p9
                replace q9 := eq_true q9
                have HP10 := Kd.R_putg HO_3.out (x4_1 : Int) (rd l0 x4_1)
                go_wp2_with (first | ((with_reducible refine gate_store (t := 3) (p := 20) rfl ?_); refine store_event (t := 3) (p := 20) (v := ?vo_w11) (w1 := (wr.setCell ⟨go9, (x4_1 : Int).toNat, none⟩ (.int .i64 (rd l0 x4_1)))) ?hg ?ho ?hn ?hr ?_; (case ho => rfl); (case hg => rfl); (case hn => rfl); (case hr => first | (go_simp; done) | (go_simp; rfl)); intro w11 hw; have hg : wr.grownBy w11 (some go9) := (by rw [hw]; exact HP10.2); have hp_ : Kd.R (Kd.int .i64) 3 w11 w.heap.size (fun _ => True) (.slice (some ⟨go9, 0, none⟩) x3_1.length co9) y124 := (by rw [hw, Ny124.out]; exact HP10.1); clear HP10; have n0_ := Aside0.mk (hp_); have n1_ := Aside0.mk ((by rw [hw]; exact below_set (HB.out) GB9.out : Below w.heap.size w w11)); clear HO_3; clear HB; have HO_3 := n0_; have HB := n1_; clear n0_ n1_; clear hg hw hp_))
                go_roundg k1
                case measure => have := HK1.out; omega
                case rel => exact ⟨(y124), (wrap64 (x4_1 + 1)), (by first | rfl | (simp; done) | (simp [*]; done)), H', ⟨by have := HK1.out; omega⟩, ⟨by (with_reducible repeat (first | apply Kd.R_alloc | apply Kd.R_drewN | apply Kd.R_drew)); exact HO_3.out⟩, ⟨by repeat (first | (with_reducible first | exact HB.out | apply below_alloc | apply pw_below_drewN | apply below_drew1) | exact HB.out)⟩⟩
              · rw [if_neg c8] at H
                exact absurd H (by simp)
            · rw [if_neg c7] at H
              exact absurd H (by simp)
          · rw [if_neg c6] at H
            have c6b0 : decide (x4_1 < (l0.length : Int)) = false := decide_eq_false c6
            clear c6
            obtain rfl := Option.some.inj H
            go_wp2
            go_ret
            exact ⟨_, by first | rfl | (simp [errW_none, errW_some] <;> rfl) | (simp [*, errW_none, errW_some] <;> rfl), by (with_reducible repeat (first | apply Kd.R_alloc | apply Kd.R_drewN | apply Kd.R_drew)); exact HO_3.out, by repeat (first | (with_reducible first | exact HB.out | apply below_alloc | apply pw_below_drewN | apply below_drew1) | exact HB.out)⟩
    · rw [if_neg c3] at H
      exact absurd H (by simp)
  · rw [if_neg c2] at H
    exact absurd H (by simp)
theorem laws_toIntS.go (l : List Int) (hm : l.length ≤ 35184372088832) (d : Nat) : ∀ (i k : Nat), l.length - i = d → i ≤ l.length → d < k →
    laws_toIntS.l0 k l (l.take i ++ List.replicate (l.length - i) 0) (i : Int) = some l := by
  induction d with
  | zero =>
    intro i k hd hi' hk
    obtain ⟨k, rfl⟩ : ∃ m, k = m + 1 := ⟨k - 1, by omega⟩
    obtain rfl : i = l.length := by omega
    simp only [laws_toIntS.l0]
    rw [if_neg (by omega)]
    simp
  | succ d ih =>
    intro i k hd hi' hk
    obtain ⟨k, rfl⟩ : ∃ m, k = m + 1 := ⟨k - 1, by omega⟩
    have hlt : i < l.length := by omega
    simp only [laws_toIntS.l0]
    rw [if_pos (by omega), if_pos (by omega), if_pos (by simp; omega)]
    have hrd : rd l (i : Int) = l[i] := by simp [rd, hlt]
    have hw : wrap64 ((i : Int) + 1) = ((i + 1 : Nat) : Int) := by unfold wrap64; omega
    rw [hrd, hw]
    have hs : (l.take i ++ List.replicate (l.length - i) 0).set ((i : Int)).toNat l[i] = l.take (i + 1) ++ List.replicate (l.length - (i + 1)) 0 := by
      rw [Int.toNat_natCast, show l.length - i = (l.length - (i + 1)) + 1 by omega, List.replicate_succ, List.take_succ_eq_append_getElem hlt, List.append_assoc]
      rw [List.set_append_right _ _ (by simp; omega)]
      simp [Nat.min_eq_left (Nat.le_of_lt hlt)]
    rw [hs, ih (i + 1) k (by omega) (by omega) (by omega)]
theorem laws_toIntS.ev (l : List Int) (hm : l.length ≤ 35184372088832) : ∃ k, laws_toIntS.f k l = some l :=
  ⟨l.length + 1, by unfold laws_toIntS.f; rw [if_pos (by omega), if_pos (by omega)]; have := laws_toIntS.go l hm l.length 0 (l.length + 1) (by omega) (by omega) (by omega); simpa using this⟩
theorem laws_toIntS.E (l : List Int) (hm : l.length ≤ 1048576) : Ev (fun k => laws_toIntS.f k l) l := by
  obtain ⟨k, h⟩ := laws_toIntS.ev l (by omega)
  exact Ev.of (fun k => laws_toIntS.mono _ k) h
end Go.Proofs.Ytcjjmfpkhhdmlaa.G

namespace Go.Proofs.Ytcjjmfpkhhdmlaa.G
open Go.RowKit Go.Proofs.YtcjjmfpkhhdmlaaW.PrintWords Go.Proofs.YtcjjmfpkhhdmlaaW.PrintLast Go.Proofs.YtcjjmfpkhhdmlaaW.PrintMore
attribute [local go_sem] max2_int min2_int max_two min_two max_three min_three max_four min_four   -- for this text's walks alone
/-! ### laws_toIntSS: function 37 -/
/-- rows that fit -/
def fitSS (l : List (List Int)) : Bool := decide (l.length ≤ 11728124029610) && l.all fun x => decide (x.length ≤ 35184372088832)
def laws_toIntSS.f (l0 : List (List Int)) : Option (List (List Int)) := if fitSS l0 then some l0 else none
def SSI (w : World) (base : Nat) (v : Value) (xs : List (List Int)) : Prop := Kd.S (Kd.slice 3 (Kd.int .i64)) 22 w base (fun _ => True) v xs
theorem laws_toIntSS.calls (A0 : Option Addr) (c0 : Nat) (l0 : List (List Int)) (r : List (List Int)) (w : World) (hr0 : Kd.C (Kd.slice 3 (Kd.int .i64)) w A0 l0.length l0) (hc0 : l0.length ≤ c0) (h : laws_toIntSS.f l0 = some r) :
    Calls Try.prog 37 #[.slice A0 l0.length c0] w fun e w' => ∃ v0_ : Value, e = .returned (v0_) ∧ Kd.S (Kd.slice 3 (Kd.int .i64)) 22 w' w.heap.size (fun _ => True) v0_ r ∧ Below w.heap.size w w' := by
  unfold laws_toIntSS.f at h
  split at h
  · rename_i hf
    obtain rfl := Option.some.inj h
    clear h
    unfold fitSS at hf
    rw [Bool.and_eq_true, decide_eq_true_eq, List.all_eq_true] at hf
    obtain ⟨hm, hfit0⟩ := hf
    have hfit := Aside0.mk hfit0
    clear hfit0
    have HR0 := Aside0.mk hr0
    have HC0 := Aside0.mk hc0
    clear hr0 hc0
    go_enter Try.func37, Try.ntmps37
    go_wp2_with (first | ((with_reducible refine gate_dst (N := 7) rfl ?_); refine Kd.S_make (Kd.slice 3 (Kd.int .i64)) _ 22 rfl (N := 7) rfl 36 _ _ rfl (l0.length : Int) rfl rfl Try.underlying36 (.slice none 0 0) 24 info22 rfl (by decide) (by omega) [] (ok := fun _ => True) (okp := fun _ => True) ⟨_, rfl, Kd.R_nil _ _ _ _ _⟩ (fun _ hk => hk) trivial (by omega) (by omega) (Below.refl _ _) (Nat.le_refl _) ?_; intro v113 w4 ho5 hb hg_ hnew_; clear hg_ hnew_; have HO := Aside0.mk ho5; have HB := Aside0.mk hb; clear ho5 hb))
    go_loopw [4] (fun v4 w' => ∃ i : Nat, v4 = .int .i64 i ∧ i ≤ l0.length ∧ Aside0 (SSI w' w.heap.size v113 (l0.take i ++ List.replicate (l0.length - i) [])) ∧ Aside0 (Below w.heap.size w w')) (fun v4 w' => l0.length - (intOf v4).toNat)
    case atStart => exact ⟨0, rfl, by omega, ⟨by simpa [SSI] using HO.out⟩, HB⟩
    case round =>
      clear HO HB
      obtain ⟨i, rfl, hi, HO, HB⟩ := hrel
      by_cases hlt : i < l0.length
      · obtain ⟨ad, A1, c1, e1, hx, hl, hi1⟩ := at_L3 HR0.out (i : Int) (by omega) (by omega)
        cases e1
        rw [Int.toNat_natCast] at hx
        replace hx := (HB.out.cell (World.block_lt_of_cell? w _ hx)).trans hx
        have hgl : rd_L3 l0 i = l0[i] := by simp [rd_L3, hlt]
        have HGL := Aside0.mk hgl
        obtain ⟨k, hk⟩ := laws_toIntS.ev (rd_L3 l0 i) (by rw [hgl]; exact of_decide_eq_true (hfit.out _ (List.getElem_mem _)))
        have HK := Aside0.mk hk
        have HR1 := Aside0.mk hi1
        have HC1 := Aside0.mk hl
        have hln : (l0.take i ++ List.replicate (l0.length - i) ([] : List Int)).length = l0.length := by simp; omega
        have HLN := Aside0.mk hln
        clear hi1 hl hk hgl
        obtain ⟨g, cap, e2, hgb, hgl, _⟩ := Kd.S_form HO.out (by omega)
        rw [hln] at e2
        subst e2
        have HGB := Aside0.mk hgb
        clear hln hgb hgl
        go_wp2_with (first | (go_at_call 16; (with_reducible refine (laws_toIntS.calls k _ _ (rd_L3 l0 i) _ _ ?side1 ?side2 HK.out).mono ?_); (case side1 => exact Kd.C_below HR1.out HB.out); (case side2 => exact HC1.out); rintro e w11 ⟨v114, rfl, ho0, hb⟩; obtain ⟨A2, c2, e3⟩ := Kd.R_slice ho0; subst e3; have HO2 := Aside0.mk ho0; have HB2 := Aside0.mk hb; have HS2 := Aside0.mk (Kd.S_below HO.out hb); clear ho0 hb; obtain ⟨⟨u, hxc⟩, hxf⟩ := S_cell rfl HS2.out [] (i : Int) (by omega) (by omega); rw [Int.toNat_natCast] at hxc hxf))
        go_roundw
        case rel =>
          refine ⟨i + 1, by go_num, by omega, ⟨?_⟩, ⟨below_set (HB.out.trans (HB2.out.mono (HB.out.size))) HGB.out⟩⟩
          have hp := S_put1 (x' := l0[i]) rfl HO.out HB2.out [] (i : Int) (by omega) (by omega) (Kd.M_row (Kd.R_mono (Kd.R_lower (Kd.R_bound (HGL.out ▸ HO2.out)) HB.out.size) (fun k hk => hk.2.1)))
          rw [Int.toNat_natCast, fill_set _ _ _ hlt] at hp
          rw [HGL.out]
          exact hp
        case measure => simp [intOf]; omega
      · obtain rfl : i = l0.length := by omega
        go_wp2
        go_ret
        exact ⟨_, rfl, by simpa [SSI] using HO.out, HB.out⟩
  · cases h
theorem laws_toIntSS.val (l0 : List (List Int)) (h1 : l0.length ≤ 1048576) (h2 : ∀ x ∈ l0, x.length ≤ 1048576) : laws_toIntSS.f l0 = some l0 := by
  unfold laws_toIntSS.f
  rw [if_pos]
  simp only [fitSS, Bool.and_eq_true, decide_eq_true_eq, List.all_eq_true]
  exact ⟨by omega, fun x hx => by have := h2 x hx; omega⟩
end Go.Proofs.Ytcjjmfpkhhdmlaa.G

namespace Go.Proofs.Ytcjjmfpkhhdmlaa.G
open Go.RowKit Go.Proofs.YtcjjmfpkhhdmlaaW.PrintWords Go.Proofs.YtcjjmfpkhhdmlaaW.PrintLast Go.Proofs.YtcjjmfpkhhdmlaaW.PrintMore
attribute [local go_sem] max2_int min2_int max_two min_two max_three min_three max_four min_four   -- for this text's walks alone
/-! ### laws_eqIntS: function 19 -/
def laws_eqIntS.l0 : Nat → List Int → List Int → Int → Option (Bool)
  | 0, _, _, _ => none
  | k + 1, x0, x1, x5 => if x5 < (x0.length : Int) then (if 0 ≤ x5 then (if x5 < (x1.length : Int) then (if (rd x0 x5) = (rd x1 x5) then (laws_eqIntS.l0 k x0 x1 (wrap64 (x5 + 1))) else (some false)) else (none)) else (none)) else (some true)
def laws_eqIntS.f (k : Nat) (l0 : List Int) (l1 : List Int) : Option (Bool) := if (l0.length : Int) = (l1.length : Int) then (laws_eqIntS.l0 k l0 l1 0) else (some false)
theorem laws_eqIntS.mono_l : ∀ k, (∀ y0 y1 y2, LeO (laws_eqIntS.l0 k y0 y1 y2) (laws_eqIntS.l0 (k + 1) y0 y1 y2))
  | 0 => fun _ _ _ r h => by simp [laws_eqIntS.l0] at h
  | k + 1 => by
    have ih0 := laws_eqIntS.mono_l k
    · intro y0 y1 y2
      unfold laws_eqIntS.l0
      repeat' first
      | (with_reducible exact ih0 _ _ _)
      | (with_reducible exact LeO.refl _)
      | (with_reducible exact LeO.none _)
      | (with_reducible refine LeO.ite ?_ ?_)
      | (with_reducible refine LeO.bind ?_ (fun _ => ?_))
      | exact ih0 _ _ _
      | exact LeO.none _
      | refine LeO.ite ?_ ?_
      | refine LeO.bind ?_ (fun _ => ?_)
theorem laws_eqIntS.mono : ∀ a0 a1 k, LeO (laws_eqIntS.f k a0 a1) (laws_eqIntS.f (k + 1) a0 a1) := by
  intro a0 a1 k
  have ih0 := laws_eqIntS.mono_l k
  unfold laws_eqIntS.f
  repeat' first
      | (with_reducible exact ih0 _ _ _)
      | (with_reducible exact LeO.refl _)
      | (with_reducible exact LeO.none _)
      | (with_reducible refine LeO.ite ?_ ?_)
      | (with_reducible refine LeO.bind ?_ (fun _ => ?_))
      | exact ih0 _ _ _
      | exact LeO.none _
      | refine LeO.ite ?_ ?_
      | refine LeO.bind ?_ (fun _ => ?_)
set_option maxHeartbeats 8000000 in
set_option maxRecDepth 100000 in
theorem laws_eqIntS.calls (k : Nat) (A0 : Option Addr) (c0 : Nat) (l0 : List Int) (A1 : Option Addr) (c1 : Nat) (l1 : List Int) (r : Bool) (w : World) (hr0 : Kd.C (Kd.int .i64) w A0 l0.length l0) (hc0 : l0.length ≤ c0) (hr1 : Kd.C (Kd.int .i64) w A1 l1.length l1) (hc1 : l1.length ≤ c1) (h : laws_eqIntS.f k l0 l1 = some r) :
    Calls Try.prog 19 #[.slice A0 l0.length c0, .slice A1 l1.length c1] w fun e w' => e = .returned (.bool r) ∧ Drawn0 w w' := by
  have HR0 := Aside0.mk hr0
  have HC0 := Aside0.mk hc0
  clear hr0 hc0
  have HR1 := Aside0.mk hr1
  have HC1 := Aside0.mk hc1
  clear hr1 hc1
  have H : (if (l0.length : Int) = (l1.length : Int) then (laws_eqIntS.l0 k l0 l1 0) else (some false)) = some r := h
  clear h
  by_cases c3 : (l0.length : Int) = (l1.length : Int)
  · rw [if_pos c3] at H
    have c3b0 : ((l0.length : Int) == (l1.length : Int)) = true := beq_iff_eq.mpr c3
    have c3b1 : ((l0.length : Int) != (l1.length : Int)) = false := bne_eq_false_iff_eq.mpr c3
    have c3b2 : (l0.length == l1.length) = true := by first | simpa using c3 | (simp at c3 ⊢; omega)
    clear c3
    have H' := Aside0.mk H
    clear H
    go_enter Try.func19, Try.ntmps19
    go_wp2
    repeat (go_quiet (fail); try go_wp2)
    go_loopg [5] k (fun kq v5 w' => ∃ (x5_1 : Int), v5 = .int .i64 x5_1 ∧ Aside0 (laws_eqIntS.l0 kq l0 l1 x5_1 = some r) ∧ Aside0 (kq ≤ k) ∧ Drawn0 w w')
    case atStart => exact ⟨(0), (by first | rfl | (simp; done) | (simp [*]; done)), H', ⟨Nat.le_refl _⟩, by repeat (first | exact Drawn0.refl _ | apply Drawn0.step)⟩
    case round =>
      clear H'
      try clear c1
      try clear p2
      try clear c3
      try clear c3b0
      try clear c3b1
      try clear c3b2
      obtain ⟨x5_1, rfl, HA, HK1, ⟨m1, rfl⟩⟩ := hrel
      cases gk with
      | zero => exact absurd HA.out (by simp [laws_eqIntS.l0])
      | succ k1 =>
        have H := HA.out
        clear HA
        simp only [laws_eqIntS.l0] at H
        by_cases c4 : x5_1 < (l0.length : Int)
        · rw [if_pos c4] at H
          have c4b0 : decide (x5_1 < (l0.length : Int)) = true := decide_eq_true c4
          clear c4
          by_cases c5 : 0 ≤ x5_1
          · rw [if_pos c5] at H
            have c5b0 : decide (0 ≤ x5_1) = true := decide_eq_true c5
            clear c5
            by_cases c6 : x5_1 < (l1.length : Int)
            · rw [if_pos c6] at H
              have c6b0 : decide (x5_1 < (l1.length : Int)) = true := decide_eq_true c6
              clear c6
              by_cases c7 : (rd l0 x5_1) = (rd l1 x5_1)
              · rw [if_pos c7] at H
                have c7b0 : ((rd l0 x5_1) == (rd l1 x5_1)) = true := beq_iff_eq.mpr c7
                have c7b1 : ((rd l0 x5_1) != (rd l1 x5_1)) = false := bne_eq_false_iff_eq.mpr c7
                clear c7
                have H' := Aside0.mk H
                clear H
                have p142 : 0 ≤ (x5_1 : Int) := of_decide_eq_true (by first | (with_reducible assumption) | assumption)
                have q142 : x5_1 < (l0.length : Int) := of_decide_eq_true (by first | (with_reducible assumption) | assumption)
                obtain ⟨ad142, e142, hx142_0⟩ := Kd.at_int HR0.out x5_1 p142 q142
                cases e142
                replace p142 := eq_true p142
                replace q142 := eq_true q142
                have p143 : 0 ≤ (x5_1 : Int) := of_decide_eq_true (by first | (with_reducible assumption) | assumption)
                have q143 : x5_1 < (l1.length : Int) := of_decide_eq_true (by first | (with_reducible assumption) | assumption)
                obtain ⟨ad143, e143, hx143_0⟩ := Kd.at_int HR1.out x5_1 p143 q143
                cases e143
                replace p143 := eq_true p143
                replace q143 := eq_true q143
                go_wp2
                repeat (go_quiet (fail); try go_wp2)
                go_roundg k1
                case measure => have := HK1.out; omega
                case rel => exact ⟨(wrap64 (x5_1 + 1)), (by first | rfl | (simp; done) | (simp [*]; done)), H', ⟨by have := HK1.out; omega⟩, by repeat (first | exact Drawn0.refl _ | apply Drawn0.step)⟩
              · rw [if_neg c7] at H
                have c7b0 : ((rd l0 x5_1) == (rd l1 x5_1)) = false := beq_eq_false_iff_ne.mpr c7
                have c7b1 : ((rd l0 x5_1) != (rd l1 x5_1)) = true := bne_iff_ne.mpr c7
                obtain rfl := Option.some.inj H
                have p142 : 0 ≤ (x5_1 : Int) := of_decide_eq_true (by first | (with_reducible assumption) | assumption)
                have q142 : x5_1 < (l0.length : Int) := of_decide_eq_true (by first | (with_reducible assumption) | assumption)
                obtain ⟨ad142, e142, hx142_0⟩ := Kd.at_int HR0.out x5_1 p142 q142
                cases e142
                replace p142 := eq_true p142
                replace q142 := eq_true q142
                have p143 : 0 ≤ (x5_1 : Int) := of_decide_eq_true (by first | (with_reducible assumption) | assumption)
                have q143 : x5_1 < (l1.length : Int) := of_decide_eq_true (by first | (with_reducible assumption) | assumption)
                obtain ⟨ad143, e143, hx143_0⟩ := Kd.at_int HR1.out x5_1 p143 q143
                cases e143
                replace p143 := eq_true p143
                replace q143 := eq_true q143
                go_wp2
                repeat (go_quiet (fail); try go_wp2)
                go_ret
                exact ⟨by first | rfl | (simp; done) | (simp [*]; done), by repeat (first | exact Drawn0.refl _ | apply Drawn0.step)⟩
            · rw [if_neg c6] at H
              exact absurd H (by simp)
          · rw [if_neg c5] at H
            exact absurd H (by simp)
        · rw [if_neg c4] at H
          have c4b0 : decide (x5_1 < (l0.length : Int)) = false := decide_eq_false c4
          clear c4
          obtain rfl := Option.some.inj H
          go_wp2
          repeat (go_quiet (fail); try go_wp2)
          go_ret
          exact ⟨by first | rfl | (simp; done) | (simp [*]; done), by repeat (first | exact Drawn0.refl _ | apply Drawn0.step)⟩
  · rw [if_neg c3] at H
    have c3b0 : ((l0.length : Int) == (l1.length : Int)) = false := beq_eq_false_iff_ne.mpr c3
    have c3b1 : ((l0.length : Int) != (l1.length : Int)) = true := bne_iff_ne.mpr c3
    have c3b2 : (l0.length == l1.length) = false := by first | simpa using c3 | (simp at c3 ⊢; omega)
    obtain rfl := Option.some.inj H
    go_enter Try.func19, Try.ntmps19
    go_wp2
    repeat (go_quiet (fail); try go_wp2)
    go_ret
    exact ⟨by first | rfl | (simp; done) | (simp [*]; done), by repeat (first | exact Drawn0.refl _ | apply Drawn0.step)⟩
theorem laws_eqIntS.ev (a b : List Int) (ha : a.length ≤ 4611686018427387904) : Ev (fun k => laws_eqIntS.f k a b) (a == b) := by
  unfold laws_eqIntS.f
  by_cases hl : a.length = b.length
  · refine Ev.ip (by omega) ?_
    have key : ∀ d i : Nat, a.length - i = d → i ≤ a.length → Ev (fun k => laws_eqIntS.l0 k a b (i : Int)) (a.drop i == b.drop i) := by
      intro d
      induction d with
      | zero =>
        intro i hd hi
        refine Ev.step (fun _ => by rw [laws_eqIntS.l0]) ?_
        refine Ev.ng (by omega) (Ev.eq (Ev.now _) ?_)
        rw [List.drop_of_length_le (by omega), List.drop_of_length_le (by omega)]; rfl
      | succ d ih =>
        intro i hd hi
        have h1 : i < a.length := by omega
        have h2 : i < b.length := by omega
        refine Ev.step (fun _ => by rw [laws_eqIntS.l0]) ?_
        refine Ev.ip (by omega) (Ev.ip (by omega) (Ev.ip (by omega) ?_))
        rw [rd_nat a i h1, rd_nat b i h2, wrap_succ i (by omega)]
        have e : (a.drop i == b.drop i) = (a[i] == b[i] && a.drop (i + 1) == b.drop (i + 1)) := by
          rw [List.drop_eq_getElem_cons h1, List.drop_eq_getElem_cons h2]; rfl
        rw [e]
        by_cases h : a[i] = b[i]
        · exact Ev.ip h (Ev.eq (ih (i + 1) (by omega) (by omega)) (by simp [h]))
        · exact Ev.ng h (Ev.eq (Ev.now _) (by simp [h]))
    exact key _ 0 rfl (by omega)
  · refine Ev.ng (by omega) (Ev.eq (Ev.now _) ?_)
    symm
    rw [beq_eq_false_iff_ne]
    intro h; exact hl (by rw [h])
theorem laws_eqIntS.T (a : List Int) (ha : a.length ≤ 1048576) : Ev (fun k => laws_eqIntS.f k a a) true := Ev.eq (laws_eqIntS.ev a a (by omega)) (by simp)
end Go.Proofs.Ytcjjmfpkhhdmlaa.G

namespace Go.Proofs.Ytcjjmfpkhhdmlaa.G
open Go.RowKit Go.Proofs.YtcjjmfpkhhdmlaaW.PrintWords Go.Proofs.YtcjjmfpkhhdmlaaW.PrintLast Go.Proofs.YtcjjmfpkhhdmlaaW.PrintMore
attribute [local go_sem] max2_int min2_int max_two min_two max_three min_three max_four min_four   -- for this text's walks alone
/-! ### laws_eqIntSS: function 39 -/
def laws_eqIntSS.l0 : Nat → List (List Int) → List (List Int) → Int → Option (Bool)
  | 0, _, _, _ => none
  | k + 1, x0, x1, x5 => if x5 < (x0.length : Int) then (if 0 ≤ x5 then (if x5 < (x1.length : Int) then ((laws_eqIntS.f k (rd_L3 x0 x5) (rd_L3 x1 x5)).bind fun t386 => (if t386 = true then (laws_eqIntSS.l0 k x0 x1 (wrap64 (x5 + 1))) else (some false))) else (none)) else (none)) else (some true)
def laws_eqIntSS.f (k : Nat) (l0 : List (List Int)) (l1 : List (List Int)) : Option (Bool) := if (l0.length : Int) = (l1.length : Int) then (laws_eqIntSS.l0 k l0 l1 0) else (some false)
theorem laws_eqIntSS.mono_l : ∀ k, (∀ y0 y1 y2, LeO (laws_eqIntSS.l0 k y0 y1 y2) (laws_eqIntSS.l0 (k + 1) y0 y1 y2))
  | 0 => fun _ _ _ r h => by simp [laws_eqIntSS.l0] at h
  | k + 1 => by
    have ih0 := laws_eqIntSS.mono_l k
    · intro y0 y1 y2
      unfold laws_eqIntSS.l0
      repeat' first
      | (with_reducible exact ih0 _ _ _)
      | (with_reducible exact laws_eqIntS.mono _ _ _)
      | (with_reducible exact LeO.refl _)
      | (with_reducible exact LeO.none _)
      | (with_reducible refine LeO.ite ?_ ?_)
      | (with_reducible refine LeO.bind ?_ (fun _ => ?_))
      | exact ih0 _ _ _
      | exact laws_eqIntS.mono _ _ _
      | exact LeO.none _
      | refine LeO.ite ?_ ?_
      | refine LeO.bind ?_ (fun _ => ?_)
theorem laws_eqIntSS.mono : ∀ a0 a1 k, LeO (laws_eqIntSS.f k a0 a1) (laws_eqIntSS.f (k + 1) a0 a1) := by
  intro a0 a1 k
  have ih0 := laws_eqIntSS.mono_l k
  unfold laws_eqIntSS.f
  repeat' first
      | (with_reducible exact ih0 _ _ _)
      | (with_reducible exact laws_eqIntS.mono _ _ _)
      | (with_reducible exact LeO.refl _)
      | (with_reducible exact LeO.none _)
      | (with_reducible refine LeO.ite ?_ ?_)
      | (with_reducible refine LeO.bind ?_ (fun _ => ?_))
      | exact ih0 _ _ _
      | exact laws_eqIntS.mono _ _ _
      | exact LeO.none _
      | refine LeO.ite ?_ ?_
      | refine LeO.bind ?_ (fun _ => ?_)
set_option maxHeartbeats 8000000 in
set_option maxRecDepth 100000 in
theorem laws_eqIntSS.calls (k : Nat) (A0 : Option Addr) (c0 : Nat) (l0 : List (List Int)) (A1 : Option Addr) (c1 : Nat) (l1 : List (List Int)) (r : Bool) (w : World) (hr0 : Kd.C (Kd.slice 3 (Kd.int .i64)) w A0 l0.length l0) (hc0 : l0.length ≤ c0) (hr1 : Kd.C (Kd.slice 3 (Kd.int .i64)) w A1 l1.length l1) (hc1 : l1.length ≤ c1) (h : laws_eqIntSS.f k l0 l1 = some r) :
    Calls Try.prog 39 #[.slice A0 l0.length c0, .slice A1 l1.length c1] w fun e w' => e = .returned (.bool r) ∧ Drawn0 w w' := by
  have HR0 := Aside0.mk hr0
  have HC0 := Aside0.mk hc0
  clear hr0 hc0
  have HR1 := Aside0.mk hr1
  have HC1 := Aside0.mk hc1
  clear hr1 hc1
  have H : (if (l0.length : Int) = (l1.length : Int) then (laws_eqIntSS.l0 k l0 l1 0) else (some false)) = some r := h
  clear h
  by_cases c3 : (l0.length : Int) = (l1.length : Int)
  · rw [if_pos c3] at H
    have c3b0 : ((l0.length : Int) == (l1.length : Int)) = true := beq_iff_eq.mpr c3
    have c3b1 : ((l0.length : Int) != (l1.length : Int)) = false := bne_eq_false_iff_eq.mpr c3
    have c3b2 : (l0.length == l1.length) = true := by first | simpa using c3 | (simp at c3 ⊢; omega)
    clear c3
    have H' := Aside0.mk H
    clear H
    go_enter Try.func39, Try.ntmps39
    go_wp2
    repeat (go_quiet (fail); try go_wp2)
    go_loopg [5] k (fun kq v5 w' => ∃ (x5_1 : Int), v5 = .int .i64 x5_1 ∧ Aside0 (laws_eqIntSS.l0 kq l0 l1 x5_1 = some r) ∧ Aside0 (kq ≤ k) ∧ Drawn0 w w')
    case atStart => exact ⟨(0), (by first | rfl | (simp; done) | (simp [*]; done)), H', ⟨Nat.le_refl _⟩, by repeat (first | exact Drawn0.refl _ | apply Drawn0.step)⟩
    case round =>
      clear H'
      try clear c1
      try clear p2
      try clear c3
      try clear c3b0
      try clear c3b1
      try clear c3b2
      obtain ⟨x5_1, rfl, HA, HK1, ⟨m1, rfl⟩⟩ := hrel
      cases gk with
      | zero => exact absurd HA.out (by simp [laws_eqIntSS.l0])
      | succ k1 =>
        have H := HA.out
        clear HA
        simp only [laws_eqIntSS.l0] at H
        by_cases c4 : x5_1 < (l0.length : Int)
        · rw [if_pos c4] at H
          have c4b0 : decide (x5_1 < (l0.length : Int)) = true := decide_eq_true c4
          clear c4
          by_cases c5 : 0 ≤ x5_1
          · rw [if_pos c5] at H
            have c5b0 : decide (0 ≤ x5_1) = true := decide_eq_true c5
            clear c5
            by_cases c6 : x5_1 < (l1.length : Int)
            · rw [if_pos c6] at H
              have c6b0 : decide (x5_1 < (l1.length : Int)) = true := decide_eq_true c6
              clear c6
              replace H := Option.bind_eq_some_iff.mp H
              obtain ⟨t386, A70, H⟩ := H
              replace H : (if t386 = true then (laws_eqIntSS.l0 k1 l0 l1 (wrap64 (x5_1 + 1))) else (some false)) = some r := H
              have A7 := Aside0.mk A70
              clear A70
              by_cases c8 : t386 = true
              · subst c8
                have H1 : (laws_eqIntSS.l0 k1 l0 l1 (wrap64 (x5_1 + 1))) = some r := by rw [if_pos rfl] at H; exact H
                clear H
                have H := H1
                clear H1
                have H' := Aside0.mk H
                clear H
                have p384 : 0 ≤ (x5_1 : Int) := of_decide_eq_true (by first | (with_reducible assumption) | assumption)
                have q384 : x5_1 < (l0.length : Int) := of_decide_eq_true (by first | (with_reducible assumption) | assumption)
                obtain ⟨ad384, A384_0, c384_0, e384, hx384_0, hl384_0, hi384_0⟩ := at_L3 HR0.out x5_1 p384 q384
                cases e384
                have HR384_0 := Aside0.mk hi384_0
                have HC384_0 := Aside0.mk hl384_0
                clear hi384_0 hl384_0
                replace p384 := eq_true p384
                replace q384 := eq_true q384
                have p385 : 0 ≤ (x5_1 : Int) := of_decide_eq_true (by first | (with_reducible assumption) | assumption)
                have q385 : x5_1 < (l1.length : Int) := of_decide_eq_true (by first | (with_reducible assumption) | assumption)
                obtain ⟨ad385, A385_0, c385_0, e385, hx385_0, hl385_0, hi385_0⟩ := at_L3 HR1.out x5_1 p385 q385
                cases e385
                have HR385_0 := Aside0.mk hi385_0
                have HC385_0 := Aside0.mk hl385_0
                clear hi385_0 hl385_0
                replace p385 := eq_true p385
                replace q385 := eq_true q385
                go_wp2_with (first | (go_at_call 19; (with_reducible refine (laws_eqIntS.calls k1 _ _ (rd_L3 l0 x5_1) _ _ (rd_L3 l1 x5_1) true _ ?side1 ?side2 ?side3 ?side4 A7.out).mono ?_); (case side1 => repeat (first | exact HR384_0.out | (with_reducible refine Kd.C_alloc ?_ _) | (with_reducible refine Kd.C_drewN ?_ _) | (with_reducible refine Kd.C_drew ?_))); (case side2 => exact HC384_0.out); (case side3 => repeat (first | exact HR385_0.out | (with_reducible refine Kd.C_alloc ?_ _) | (with_reducible refine Kd.C_drewN ?_ _) | (with_reducible refine Kd.C_drew ?_))); (case side4 => exact HC385_0.out); rintro e w' ⟨rfl, ⟨nd, rfl⟩⟩; (try first | exact ⟨rfl, _, World.drewN_drewN _ _ _⟩ | exact ⟨rfl, _, Eq.trans (World.drewN_drewN _ _ _) (congrArg (World.drewN _) (Nat.add_assoc _ _ _))⟩)))
                repeat (go_quiet (first | (go_at_call 19; (with_reducible refine (laws_eqIntS.calls k1 _ _ (rd_L3 l0 x5_1) _ _ (rd_L3 l1 x5_1) true _ ?side1 ?side2 ?side3 ?side4 A7.out).mono ?_); (case side1 => repeat (first | exact HR384_0.out | (with_reducible refine Kd.C_alloc ?_ _) | (with_reducible refine Kd.C_drewN ?_ _) | (with_reducible refine Kd.C_drew ?_))); (case side2 => exact HC384_0.out); (case side3 => repeat (first | exact HR385_0.out | (with_reducible refine Kd.C_alloc ?_ _) | (with_reducible refine Kd.C_drewN ?_ _) | (with_reducible refine Kd.C_drew ?_))); (case side4 => exact HC385_0.out); rintro e w' ⟨rfl, ⟨nd, rfl⟩⟩; (try first | exact ⟨rfl, _, World.drewN_drewN _ _ _⟩ | exact ⟨rfl, _, Eq.trans (World.drewN_drewN _ _ _) (congrArg (World.drewN _) (Nat.add_assoc _ _ _))⟩))); try go_wp2_with (first | (go_at_call 19; (with_reducible refine (laws_eqIntS.calls k1 _ _ (rd_L3 l0 x5_1) _ _ (rd_L3 l1 x5_1) true _ ?side1 ?side2 ?side3 ?side4 A7.out).mono ?_); (case side1 => repeat (first | exact HR384_0.out | (with_reducible refine Kd.C_alloc ?_ _) | (with_reducible refine Kd.C_drewN ?_ _) | (with_reducible refine Kd.C_drew ?_))); (case side2 => exact HC384_0.out); (case side3 => repeat (first | exact HR385_0.out | (with_reducible refine Kd.C_alloc ?_ _) | (with_reducible refine Kd.C_drewN ?_ _) | (with_reducible refine Kd.C_drew ?_))); (case side4 => exact HC385_0.out); rintro e w' ⟨rfl, ⟨nd, rfl⟩⟩; (try first | exact ⟨rfl, _, World.drewN_drewN _ _ _⟩ | exact ⟨rfl, _, Eq.trans (World.drewN_drewN _ _ _) (congrArg (World.drewN _) (Nat.add_assoc _ _ _))⟩))))
                go_roundg k1
                case measure => have := HK1.out; omega
                case rel => exact ⟨(wrap64 (x5_1 + 1)), (by first | rfl | (simp; done) | (simp [*]; done)), H', ⟨by have := HK1.out; omega⟩, by repeat (first | exact Drawn0.refl _ | apply Drawn0.step)⟩
              · replace c8 := Bool.eq_false_iff.mpr c8
                subst c8
                have H1 : (some false) = some r := by rw [if_neg (show ¬ (false = true) by decide)] at H; exact H
                clear H
                have H := H1
                clear H1
                obtain rfl := Option.some.inj H
                have p384 : 0 ≤ (x5_1 : Int) := of_decide_eq_true (by first | (with_reducible assumption) | assumption)
                have q384 : x5_1 < (l0.length : Int) := of_decide_eq_true (by first | (with_reducible assumption) | assumption)
                obtain ⟨ad384, A384_0, c384_0, e384, hx384_0, hl384_0, hi384_0⟩ := at_L3 HR0.out x5_1 p384 q384
                cases e384
                have HR384_0 := Aside0.mk hi384_0
                have HC384_0 := Aside0.mk hl384_0
                clear hi384_0 hl384_0
                replace p384 := eq_true p384
                replace q384 := eq_true q384
                have p385 : 0 ≤ (x5_1 : Int) := of_decide_eq_true (by first | (with_reducible assumption) | assumption)
                have q385 : x5_1 < (l1.length : Int) := of_decide_eq_true (by first | (with_reducible assumption) | assumption)
                obtain ⟨ad385, A385_0, c385_0, e385, hx385_0, hl385_0, hi385_0⟩ := at_L3 HR1.out x5_1 p385 q385
                cases e385
                have HR385_0 := Aside0.mk hi385_0
                have HC385_0 := Aside0.mk hl385_0
                clear hi385_0 hl385_0
                replace p385 := eq_true p385
                replace q385 := eq_true q385
                go_wp2_with (first | (go_at_call 19; (with_reducible refine (laws_eqIntS.calls k1 _ _ (rd_L3 l0 x5_1) _ _ (rd_L3 l1 x5_1) false _ ?side1 ?side2 ?side3 ?side4 A7.out).mono ?_); (case side1 => repeat (first | exact HR384_0.out | (with_reducible refine Kd.C_alloc ?_ _) | (with_reducible refine Kd.C_drewN ?_ _) | (with_reducible refine Kd.C_drew ?_))); (case side2 => exact HC384_0.out); (case side3 => repeat (first | exact HR385_0.out | (with_reducible refine Kd.C_alloc ?_ _) | (with_reducible refine Kd.C_drewN ?_ _) | (with_reducible refine Kd.C_drew ?_))); (case side4 => exact HC385_0.out); rintro e w' ⟨rfl, ⟨nd, rfl⟩⟩; (try first | exact ⟨rfl, _, World.drewN_drewN _ _ _⟩ | exact ⟨rfl, _, Eq.trans (World.drewN_drewN _ _ _) (congrArg (World.drewN _) (Nat.add_assoc _ _ _))⟩)))
                repeat (go_quiet (first | (go_at_call 19; (with_reducible refine (laws_eqIntS.calls k1 _ _ (rd_L3 l0 x5_1) _ _ (rd_L3 l1 x5_1) false _ ?side1 ?side2 ?side3 ?side4 A7.out).mono ?_); (case side1 => repeat (first | exact HR384_0.out | (with_reducible refine Kd.C_alloc ?_ _) | (with_reducible refine Kd.C_drewN ?_ _) | (with_reducible refine Kd.C_drew ?_))); (case side2 => exact HC384_0.out); (case side3 => repeat (first | exact HR385_0.out | (with_reducible refine Kd.C_alloc ?_ _) | (with_reducible refine Kd.C_drewN ?_ _) | (with_reducible refine Kd.C_drew ?_))); (case side4 => exact HC385_0.out); rintro e w' ⟨rfl, ⟨nd, rfl⟩⟩; (try first | exact ⟨rfl, _, World.drewN_drewN _ _ _⟩ | exact ⟨rfl, _, Eq.trans (World.drewN_drewN _ _ _) (congrArg (World.drewN _) (Nat.add_assoc _ _ _))⟩))); try go_wp2_with (first | (go_at_call 19; (with_reducible refine (laws_eqIntS.calls k1 _ _ (rd_L3 l0 x5_1) _ _ (rd_L3 l1 x5_1) false _ ?side1 ?side2 ?side3 ?side4 A7.out).mono ?_); (case side1 => repeat (first | exact HR384_0.out | (with_reducible refine Kd.C_alloc ?_ _) | (with_reducible refine Kd.C_drewN ?_ _) | (with_reducible refine Kd.C_drew ?_))); (case side2 => exact HC384_0.out); (case side3 => repeat (first | exact HR385_0.out | (with_reducible refine Kd.C_alloc ?_ _) | (with_reducible refine Kd.C_drewN ?_ _) | (with_reducible refine Kd.C_drew ?_))); (case side4 => exact HC385_0.out); rintro e w' ⟨rfl, ⟨nd, rfl⟩⟩; (try first | exact ⟨rfl, _, World.drewN_drewN _ _ _⟩ | exact ⟨rfl, _, Eq.trans (World.drewN_drewN _ _ _) (congrArg (World.drewN _) (Nat.add_assoc _ _ _))⟩))))
                go_ret
                exact ⟨by first | rfl | (simp; done) | (simp [*]; done), by repeat (first | exact Drawn0.refl _ | apply Drawn0.step)⟩
            · rw [if_neg c6] at H
              exact absurd H (by simp)
          · rw [if_neg c5] at H
            exact absurd H (by simp)
        · rw [if_neg c4] at H
          have c4b0 : decide (x5_1 < (l0.length : Int)) = false := decide_eq_false c4
          clear c4
          obtain rfl := Option.some.inj H
          go_wp2
          repeat (go_quiet (fail); try go_wp2)
          go_ret
          exact ⟨by first | rfl | (simp; done) | (simp [*]; done), by repeat (first | exact Drawn0.refl _ | apply Drawn0.step)⟩
  · rw [if_neg c3] at H
    have c3b0 : ((l0.length : Int) == (l1.length : Int)) = false := beq_eq_false_iff_ne.mpr c3
    have c3b1 : ((l0.length : Int) != (l1.length : Int)) = true := bne_iff_ne.mpr c3
    have c3b2 : (l0.length == l1.length) = false := by first | simpa using c3 | (simp at c3 ⊢; omega)
    obtain rfl := Option.some.inj H
    go_enter Try.func39, Try.ntmps39
    go_wp2
    repeat (go_quiet (fail); try go_wp2)
    go_ret
    exact ⟨by first | rfl | (simp; done) | (simp [*]; done), by repeat (first | exact Drawn0.refl _ | apply Drawn0.step)⟩
theorem rdL_nat (l : List (List Int)) (i : Nat) (h : i < l.length) : rd_L3 l (i : Int) = l[i] := by simp [rd_L3, h]
theorem laws_eqIntSS.ev (a b : List (List Int)) (ha : a.length ≤ 4611686018427387904) (hal : ∀ x ∈ a, x.length ≤ 4611686018427387904) : Ev (fun k => laws_eqIntSS.f k a b) (a == b) := by
  unfold laws_eqIntSS.f
  by_cases hl : a.length = b.length
  · refine Ev.ip (by omega) ?_
    have key : ∀ d i : Nat, a.length - i = d → i ≤ a.length → Ev (fun k => laws_eqIntSS.l0 k a b (i : Int)) (a.drop i == b.drop i) := by
      intro d
      induction d with
      | zero =>
        intro i hd hi
        refine Ev.step (fun _ => by rw [laws_eqIntSS.l0]) ?_
        refine Ev.ng (by omega) (Ev.eq (Ev.now _) ?_)
        rw [List.drop_of_length_le (by omega), List.drop_of_length_le (by omega)]; rfl
      | succ d ih =>
        intro i hd hi
        have h1 : i < a.length := by omega
        have h2 : i < b.length := by omega
        refine Ev.step (fun _ => by rw [laws_eqIntSS.l0]) ?_
        refine Ev.ip (by omega) (Ev.ip (by omega) (Ev.ip (by omega) ?_))
        rw [rdL_nat a i h1, rdL_nat b i h2, wrap_succ i (by omega)]
        have e : (a.drop i == b.drop i) = (a[i] == b[i] && a.drop (i + 1) == b.drop (i + 1)) := by
          rw [List.drop_eq_getElem_cons h1, List.drop_eq_getElem_cons h2]; rfl
        rw [e]
        refine Ev.bind (laws_eqIntS.ev _ _ (hal _ (List.getElem_mem _))) ?_
        by_cases h : a[i] = b[i]
        · exact Ev.ip (by simp [h]) (Ev.eq (ih (i + 1) (by omega) (by omega)) (by simp [h]))
        · exact Ev.ng (by simp [h]) (Ev.eq (Ev.now _) (by simp [h]))
    exact key _ 0 rfl (by omega)
  · refine Ev.ng (by omega) (Ev.eq (Ev.now _) ?_)
    symm
    rw [beq_eq_false_iff_ne]
    intro h; exact hl (by rw [h])
theorem laws_eqIntSS.T (a : List (List Int)) (ha : a.length ≤ 1048576) (hx : ∀ x ∈ a, x.length ≤ 1048576) : Ev (fun k => laws_eqIntSS.f k a a) true := Ev.eq (laws_eqIntSS.ev a a (by omega) (fun x h => by have := hx x h; omega)) (by simp)
end Go.Proofs.Ytcjjmfpkhhdmlaa.G

namespace Go.Proofs.Ytcjjmfpkhhdmlaa.G
open Go.RowKit Go.Proofs.YtcjjmfpkhhdmlaaW.PrintWords Go.Proofs.YtcjjmfpkhhdmlaaW.PrintLast Go.Proofs.YtcjjmfpkhhdmlaaW.PrintMore
attribute [local go_sem] max2_int min2_int max_two min_two max_three min_three max_four min_four   -- for this text's walks alone
/-! ### laws_markIntS: function 21 -/
def laws_markIntS.l0 : Nat → List Int → Int → Int → Option (Int × List Int)
  | 0, _, _, _ => none
  | k + 1, x0, x1, x5 => if x5 < (x0.length : Int) then (if 0 ≤ x5 then (laws_markIntS.l0 k (x0.set (x5 : Int).toNat x1) (wrap64 (x1 + 1)) (wrap64 (x5 + 1))) else (none)) else (some (x1, x0))
def laws_markIntS.f (k : Nat) (l0 : List Int) (a1 : Int) : Option (Int × List Int) := laws_markIntS.l0 k l0 a1 0
theorem laws_markIntS.mono_l : ∀ k, (∀ y0 y1 y2, LeO (laws_markIntS.l0 k y0 y1 y2) (laws_markIntS.l0 (k + 1) y0 y1 y2))
  | 0 => fun _ _ _ r h => by simp [laws_markIntS.l0] at h
  | k + 1 => by
    have ih0 := laws_markIntS.mono_l k
    · intro y0 y1 y2
      unfold laws_markIntS.l0
      repeat' first
      | (with_reducible exact ih0 _ _ _)
      | (with_reducible exact LeO.refl _)
      | (with_reducible exact LeO.none _)
      | (with_reducible refine LeO.ite ?_ ?_)
      | (with_reducible refine LeO.bind ?_ (fun _ => ?_))
      | exact ih0 _ _ _
      | exact LeO.none _
      | refine LeO.ite ?_ ?_
      | refine LeO.bind ?_ (fun _ => ?_)
theorem laws_markIntS.mono : ∀ a0 a1 k, LeO (laws_markIntS.f k a0 a1) (laws_markIntS.f (k + 1) a0 a1) := by
  intro a0 a1 k
  have ih0 := laws_markIntS.mono_l k
  unfold laws_markIntS.f
  repeat' first
      | (with_reducible exact ih0 _ _ _)
      | (with_reducible exact LeO.refl _)
      | (with_reducible exact LeO.none _)
      | (with_reducible refine LeO.ite ?_ ?_)
      | (with_reducible refine LeO.bind ?_ (fun _ => ?_))
      | exact ih0 _ _ _
      | exact LeO.none _
      | refine LeO.ite ?_ ?_
      | refine LeO.bind ?_ (fun _ => ?_)
set_option maxHeartbeats 8000000 in
set_option maxRecDepth 100000 in
theorem laws_markIntS.calls (k : Nat) (P0_ : Nat → Prop) (u9000_ : Value) (l0 : List Int) (a1 : Int) (r1 : Int) (r2 : List Int) (w0 w : World) (hB : Below w0.heap.size w0 w) (ho0 : Kd.R (Kd.int .i64) 3 w w0.heap.size P0_ u9000_ l0) (h : laws_markIntS.f k l0 a1 = some (r1, r2)) :
    Calls Try.prog 21 #[u9000_, .int .i64 a1] w fun e w' => e = .returned (.int .i64 r1) ∧ Kd.R (Kd.int .i64) 3 w' w0.heap.size (fun k_ => (P0_ k_ ∨ w.heap.size ≤ k_)) u9000_ r2 ∧ Below w0.heap.size w0 w' ∧ Kept w w' (fun k_ => P0_ k_) := by
  have HO0 := Aside0.mk (show Kd.R (Kd.int .i64) 3 w w0.heap.size (fun k_ => (P0_ k_ ∨ w.heap.size ≤ k_)) u9000_ l0 from Kd.R_mono ho0 (fun k_ hk => (.inl hk)))
  have HK := Aside0.mk (Kept.refl w (fun k_ => P0_ k_))
  have HW0 := Aside0.mk hB.size
  have HB := Aside0.mk hB
  clear hB
  have H : (laws_markIntS.l0 k l0 a1 0) = some (r1, r2) := h
  clear h
  have H' := Aside0.mk H
  clear H
  go_enter Try.func21, Try.ntmps21
  go_wp2
  go_loopg [1, 5] k (fun kq v1 v5 w' => ∃ (x0_1 : List Int) (x1_1 : Int) (x5_1 : Int), v1 = .int .i64 x1_1 ∧ v5 = .int .i64 x5_1 ∧ Aside0 (laws_markIntS.l0 kq x0_1 x1_1 x5_1 = some (r1, r2)) ∧ Aside0 (kq ≤ k) ∧ Aside0 (Kd.R (Kd.int .i64) 3 w' w0.heap.size (fun k_ => (P0_ k_ ∨ w.heap.size ≤ k_)) u9000_ x0_1) ∧ Aside0 (Kept w w' (fun k_ => P0_ k_)) ∧ Aside0 (Below w0.heap.size w0 w'))
  case atStart => exact ⟨(l0), (a1), (0), (by first | rfl | (simp; done) | (simp [*]; done)), (by first | rfl | (simp; done) | (simp [*]; done)), H', ⟨Nat.le_refl _⟩, ⟨by (with_reducible repeat (first | apply Kd.R_alloc | apply Kd.R_drewN | apply Kd.R_drew)); exact HO0.out⟩, ⟨by repeat (first | (with_reducible first | exact HK.out | apply Kept.alloc | apply Kept.drewN | apply Kept.drew) | exact HK.out)⟩, ⟨by repeat (first | (with_reducible first | exact HB.out | apply below_alloc | apply pw_below_drewN | apply below_drew1) | exact HB.out)⟩⟩
  case round =>
    clear H'
    try clear c2
    try clear p2
    obtain ⟨x0_1, x1_1, x5_1, rfl, rfl, HA, HK1, HO_0, HK, HB⟩ := hrel
    cases gk with
    | zero => exact absurd HA.out (by simp [laws_markIntS.l0])
    | succ k1 =>
      have H := HA.out
      clear HA
      simp only [laws_markIntS.l0] at H
      by_cases c3 : x5_1 < (x0_1.length : Int)
      · rw [if_pos c3] at H
        have c3b0 : decide (x5_1 < (x0_1.length : Int)) = true := decide_eq_true c3
        clear c3
        by_cases c4 : 0 ≤ x5_1
        · rw [if_pos c4] at H
          have c4b0 : decide (0 ≤ x5_1) = true := decide_eq_true c4
          clear c4
          obtain ⟨y146, hy146⟩ : ∃ y_ : List Int, y_ = (x0_1.set (x5_1 : Int).toNat x1_1) := ⟨_, rfl⟩
          replace H : (laws_markIntS.l0 k1 y146 (wrap64 (x1_1 + 1)) (wrap64 (x5_1 + 1))) = some (r1, r2) := by first | (rw [hy146]; with_reducible exact H) | (have H2_ := (Option.bind_some _ _).symm.trans H; rw [hy146]; with_reducible exact H2_) | (have H2_ := (Option.bind_some _ _).symm.trans H; with_reducible exact H2_) | with_reducible exact H | (rw [hy146]; exact H) | exact H
          have Ny146 := Aside0.mk hy146
          clear hy146
          have H' := Aside0.mk H
          clear H
          obtain ⟨Ao6, co6, eo6⟩ := Kd.R_slice HO_0.out
          subst eo6
          have p5 : 0 ≤ (x5_1 : Int) := of_decide_eq_true (by first | (with_reducible assumption) | assumption)
          have q5 : (x5_1 : Int) < ((x0_1.length : Int) : Int) := of_decide_eq_true (by first | (with_reducible assumption) | assumption)
          obtain ⟨go5, co5, eo5, gb5, gl5, cl5, HG5⟩ := Kd.R_form HO_0.out (by omega)
          (first | cases eo5 | (injection eo5 with ea_ en_ ec_; (first | subst ea_ | (injection ea_ with ea_; subst ea_)); subst ec_; clear en_))
          have GB5 := Aside0.mk gb5
          have GG5 := Aside0.mk HG5
          clear gb5 gl5 HG5
          have HMgo5 := Aside0.mk (show (P0_ go5 ∨ w.heap.size ≤ go5) from (HO_0.out.1 _ rfl))
          obtain ⟨hx5_0, hf5_0⟩ := Kd.R_celln 0 HO_0.out (x5_1 : Int) p5 q5
          replace p5 := eq_true p5
          replace q5 := eq_true q5
          have HP7 := Kd.R_putg HO_0.out (x5_1 : Int) x1_1
          go_wp2_with (first | ((with_reducible refine gate_store (t := 3) (p := 15) rfl ?_); refine store_event (t := 3) (p := 15) (v := ?vo_w8) (w1 := (wr.setCell ⟨go5, (x5_1 : Int).toNat, none⟩ (.int .i64 x1_1))) ?hg ?ho ?hn ?hr ?_; (case ho => rfl); (case hg => rfl); (case hn => rfl); (case hr => first | (go_simp; done) | (go_simp; rfl)); intro w8 hw; have hg : wr.grownBy w8 (some go5) := (by rw [hw]; exact HP7.2); have hp_ : Kd.R (Kd.int .i64) 3 w8 w0.heap.size (fun k_ => (P0_ k_ ∨ w.heap.size ≤ k_)) (.slice (some ⟨go5, 0, none⟩) x0_1.length co6) y146 := (by rw [hw, Ny146.out]; exact HP7.1); clear HP7; have n0_ := Aside0.mk (hp_); have n1_ := Aside0.mk ((by rw [hw]; exact below_set (HB.out) GB5.out : Below w0.heap.size w0 w8)); have n2_ := Aside0.mk (Kept.of_grown (S := (fun k_ => P0_ k_)) hg (by repeat (first | (with_reducible first | exact HK.out | apply Kept.alloc | apply Kept.drewN | apply Kept.drew) | exact HK.out)) (fun k_ e_ => (HO_0.out.1 k_ e_))); clear HO_0; clear HB; clear HK; have HO_0 := n0_; have HB := n1_; have HK := n2_; clear n0_ n1_ n2_; clear hg hw hp_))
          go_roundg k1
          case measure => have := HK1.out; omega
          case rel => exact ⟨(y146), (wrap64 (x1_1 + 1)), (wrap64 (x5_1 + 1)), (by first | rfl | (simp; done) | (simp [*]; done)), (by first | rfl | (simp; done) | (simp [*]; done)), H', ⟨by have := HK1.out; omega⟩, ⟨by (with_reducible repeat (first | apply Kd.R_alloc | apply Kd.R_drewN | apply Kd.R_drew)); exact HO_0.out⟩, ⟨by repeat (first | (with_reducible first | exact HK.out | apply Kept.alloc | apply Kept.drewN | apply Kept.drew) | exact HK.out)⟩, ⟨by repeat (first | (with_reducible first | exact HB.out | apply below_alloc | apply pw_below_drewN | apply below_drew1) | exact HB.out)⟩⟩
        · rw [if_neg c4] at H
          exact absurd H (by simp)
      · rw [if_neg c3] at H
        have c3b0 : decide (x5_1 < (x0_1.length : Int)) = false := decide_eq_false c3
        clear c3
        simp only [Option.some.injEq, Prod.mk.injEq] at H
        obtain ⟨rfl, rfl⟩ := H
        obtain ⟨Ao9, co9, eo9⟩ := Kd.R_slice HO_0.out
        subst eo9
        go_wp2
        go_ret
        exact ⟨by first | rfl | (simp [errW_none, errW_some] <;> rfl) | (simp [*, errW_none, errW_some] <;> rfl), by (with_reducible repeat (first | apply Kd.R_alloc | apply Kd.R_drewN | apply Kd.R_drew)); exact HO_0.out, by repeat (first | (with_reducible first | exact HB.out | apply below_alloc | apply pw_below_drewN | apply below_drew1) | exact HB.out), by repeat (first | (with_reducible first | exact HK.out | apply Kept.alloc | apply Kept.drewN | apply Kept.drew) | exact HK.out)⟩
theorem laws_markIntS.E (l : List Int) (a : Int) (h0 : 0 ≤ a) (h1 : a ≤ 1125899906842624) (hl : l.length ≤ 1048576) : Ev (fun k => laws_markIntS.f k l a) (a + l.length, rising a l.length) := by
  unfold laws_markIntS.f
  have key : ∀ d i : Nat, l.length - i = d → i ≤ l.length → Ev (fun k => laws_markIntS.l0 k (rising a i ++ l.drop i) (a + i) (i : Int)) (a + l.length, rising a l.length) := by
    intro d
    induction d with
    | zero =>
      intro i hd hi
      obtain rfl : i = l.length := by omega
      refine Ev.step (fun _ => by rw [laws_markIntS.l0]) (Ev.ng (by simp [rising_length]) (Ev.eq (Ev.now _) ?_))
      simp
    | succ d ih =>
      intro i hd hi
      have hlt : i < l.length := by omega
      refine Ev.step (fun _ => by rw [laws_markIntS.l0]) (Ev.ip (by simp [rising_length]; omega) (Ev.ip (by omega) ?_))
      rw [wrap_in (a + i + 1) (by omega) (by omega), wrap_succ i (by omega)]
      have e : (rising a i ++ l.drop i).set ((i : Int)).toNat (a + i) = rising a (i + 1) ++ l.drop (i + 1) := by
        rw [Int.toNat_natCast, rising_snoc, List.drop_eq_getElem_cons hlt, List.set_append_right _ _ (by rw [rising_length]; omega), rising_length, Nat.sub_self, List.set_cons_zero, List.append_assoc]
        rfl
      rw [e, show a + i + 1 = a + ((i + 1 : Nat) : Int) by omega]
      exact ih (i + 1) (by omega) (by omega)
  have := key _ 0 rfl (by omega)
  simpa [rising] using this
end Go.Proofs.Ytcjjmfpkhhdmlaa.G

namespace Go.Proofs.Ytcjjmfpkhhdmlaa.G
open Go.RowKit Go.Proofs.YtcjjmfpkhhdmlaaW.PrintWords Go.Proofs.YtcjjmfpkhhdmlaaW.PrintLast Go.Proofs.YtcjjmfpkhhdmlaaW.PrintMore
attribute [local go_sem] max2_int min2_int max_two min_two max_three min_three max_four min_four   -- for this text's walks alone
/-! ### laws_markIntSS: function 40 -/
/-- how many numbers lists have -/
def total (l : List (List Int)) : Nat := (l.map List.length).sum
theorem total_take (l : List (List Int)) (i : Nat) (h : i < l.length) : total (l.take (i + 1)) = total (l.take i) + l[i].length := by
  unfold total
  rw [List.take_succ_eq_append_getElem h, List.map_append, List.sum_append]; simp only [List.map_cons, List.map_nil, List.sum_cons, List.sum_nil, Nat.add_zero]
theorem total_le (l : List (List Int)) (h2 : ∀ x ∈ l, x.length ≤ 1048576) : total l ≤ l.length * 1048576 := by
  unfold total
  induction l with
  | nil => simp
  | cons x l ih =>
    have h3 := ih (fun y hy => h2 y (List.mem_cons_of_mem _ hy))
    have h4 := h2 x List.mem_cons_self
    simp only [List.map_cons, List.sum_cons, List.length_cons]
    omega
/-- lists with rising numbers -/
def risingSS : Int → List (List Int) → List (List Int)
  | _, [] => []
  | a, x :: l => rising a x.length :: risingSS (a + x.length) l
theorem risingSS_length (a : Int) (l : List (List Int)) : (risingSS a l).length = l.length := by
  induction l generalizing a with
  | nil => rfl
  | cons x l ih => simp only [risingSS, List.length_cons, ih]
theorem risingSS_snoc (a : Int) (l : List (List Int)) (x : List Int) : risingSS a (l ++ [x]) = risingSS a l ++ [rising (a + total l) x.length] := by
  induction l generalizing a with
  | nil => simp [risingSS, total]
  | cons y l ih =>
    simp only [List.cons_append, risingSS, ih, total, List.map_cons, List.sum_cons]
    rw [show a + ↑y.length + ↑(l.map List.length).sum = a + ↑(y.length + (l.map List.length).sum) by omega]
theorem risingSS_total (a : Int) (l : List (List Int)) : total (risingSS a l) = total l := by
  induction l generalizing a with
  | nil => rfl
  | cons x l ih =>
    have := ih (a + x.length)
    unfold total at this ⊢
    simp only [risingSS, List.map_cons, List.sum_cons, rising_length, this]
theorem risingSS_step (a : Int) (l : List (List Int)) (i : Nat) (h : i < l.length) : (risingSS a (l.take i) ++ l.drop i).getD i [] = l[i] ∧ (risingSS a (l.take i) ++ l.drop i).set i (rising (a + total (l.take i)) l[i].length) = risingSS a (l.take (i + 1)) ++ l.drop (i + 1) := by
  have hl : (risingSS a (l.take i)).length = i := by rw [risingSS_length, List.length_take]; omega
  constructor
  · rw [List.getD_eq_getElem?_getD, List.getElem?_append_right (by omega), hl, Nat.sub_self, List.drop_eq_getElem_cons h]; rfl
  · rw [List.set_append_right _ _ (by omega), hl, Nat.sub_self, List.drop_eq_getElem_cons h, List.set_cons_zero, List.take_succ_eq_append_getElem h, risingSS_snoc, List.append_assoc]
    rfl
theorem laws_markIntSS.callsT (ok : Nat → Prop) (v : Value) (l : List (List Int)) (a : Int) (w0 w : World) (hB : Below w0.heap.size w0 w) (hS : Kd.S (Kd.slice 3 (Kd.int .i64)) 22 w w0.heap.size ok v l)
    (h0 : 0 ≤ a) (h1 : a ≤ 562949953421312) (hl : l.length ≤ 1048576) (hx : ∀ x ∈ l, x.length ≤ 1048576) :
    Calls Try.prog 40 #[v, .int .i64 a] w fun e w' => (e = .returned (.int .i64 (a + total l)) ∧ Kd.S (Kd.slice 3 (Kd.int .i64)) 22 w' w0.heap.size ok v (risingSS a l)) ∧ Below w0.heap.size w0 w' ∧ Kept w w' ok := by
  have HS := Aside0.mk hS
  have HB := Aside0.mk hB
  have HX := Aside0.mk hx
  have HTL := Aside0.mk (total_le l hx)
  obtain ⟨A, c, e1⟩ := Kd.S_slice hS
  subst e1
  clear hS hB hx
  go_enter Try.func40, Try.ntmps40
  go_wp2
  go_loopw [1, 5] (fun v1 v5 w' => ∃ i : Nat, v5 = .int .i64 i ∧ i ≤ l.length ∧ v1 = .int .i64 (a + total (l.take i)) ∧ (∃ r, Aside0 (Kd.S (Kd.slice 3 (Kd.int .i64)) 22 w' w0.heap.size ok (.slice A l.length c) r) ∧ Aside0 (r.map List.length = l.map List.length) ∧ Aside0 (r = risingSS a (l.take i) ++ l.drop i)) ∧ Aside0 (Below w0.heap.size w0 w') ∧ Aside0 (Kept w w' ok)) (fun v1 v5 w' => l.length - (intOf v5).toNat)
  case atStart => exact ⟨0, rfl, by omega, by simp [total], ⟨l, HS, ⟨rfl⟩, ⟨by simp [risingSS]⟩⟩, HB, ⟨Kept.refl _ _⟩⟩
  case round =>
    obtain ⟨i, rfl, hi, rfl, ⟨r, HR, HL, HT⟩, HB2, HK⟩ := hrel
    have hrl : r.length = l.length := by simpa using congrArg List.length HL.out
    by_cases hlt : i < l.length
    · have hi0 := HX.out _ (List.getElem_mem hlt)
      have hel : (r.getD i []).length = l[i].length := by
        have h3 := HL.out
        have h4 : (r.map List.length)[i]? = (l.map List.length)[i]? := by rw [h3]
        rw [List.getElem?_map, List.getElem?_map, List.getElem?_eq_getElem (by omega : i < r.length), List.getElem?_eq_getElem hlt] at h4
        simp at h4
        simp [List.getElem?_eq_getElem (by omega : i < r.length), h4]
      have hst := risingSS_step a l i hlt
      rw [← HT.out] at hst
      have HST := Aside0.mk hst
      clear hst
      obtain ⟨g, cap, e2, hgb, hgl, _⟩ := Kd.S_form HR.out (by omega)
      injection e2 with e2 e4 e3
      subst e2; subst e3
      clear e4
      obtain ⟨oki, cs, hcl, hM, hcc, hoki, hH⟩ := Kd.S_lend HR.out [] (i : Int) (by omega) (by omega)
      obtain ⟨ve, rfl, hRe⟩ := hM
      have hx := hcc 0 ve rfl
      rw [show (Kd.slice 3 (Kd.int .i64)).sz = 1 from rfl, Nat.mul_one, Nat.add_zero, Int.toNat_natCast] at hx
      rw [Int.toNat_natCast] at hRe
      obtain ⟨xe, hxe⟩ : ∃ xe, xe = r.getD i [] := ⟨_, rfl⟩
      rw [← hxe] at hRe hel
      have HXE := Aside0.mk hxe
      clear hxe
      have htl : total (l.take i) ≤ i * 1048576 := by
        have := total_le (l.take i) (fun x hx => HX.out x (List.mem_of_mem_take hx))
        rw [List.length_take, Nat.min_eq_left hi] at this
        exact this
      have htl2 : i * 1048576 ≤ 1048576 * 1048576 := Nat.mul_le_mul_right _ (by omega)
      obtain ⟨k, hk⟩ := (laws_markIntS.E xe (a + total (l.take i)) (by omega) (by omega) (by omega)).rounds
      have HKK := Aside0.mk hk
      have HRE := Aside0.mk hRe
      have HH := Aside0.mk hH
      have HOKI := Aside0.mk hoki
      have HEL := Aside0.mk hel
      have HRL := Aside0.mk hrl
      have ht1 : total (l.take (i + 1)) = total (l.take i) + l[i].length := total_take l i hlt
      have HT1 := Aside0.mk ht1
      obtain ⟨tt, htt⟩ : ∃ tt : Int, tt = a + total (l.take i) := ⟨_, rfl⟩
      have HTT := Aside0.mk htt
      rw [← htt] at HKK ⊢
      clear hk hRe hH hoki hel hrl hcc hcl htl htl2 ht1 htt hi0 hgb hgl
      go_wp2_with (first | (go_at_call 21; (with_reducible refine (laws_markIntS.calls k oki ve xe tt _ _ w0 _ ?side1 ?side2 HKK.out).mono ?_); (case side1 => exact HB2.out); (case side2 => exact HRE.out); rintro e w11 ⟨rfl, hR1, hB1, hK1⟩; have HR1 := Aside0.mk hR1; have HB3 := Aside0.mk hB1; have HK3 := Aside0.mk hK1; clear hR1 hB1 hK1))
      go_roundw
      case rel =>
        refine ⟨i + 1, by go_num, by omega, ?_, ⟨r.set i (rising tt xe.length), ⟨?_⟩, ⟨?_⟩, ⟨?_⟩⟩, HB3, ⟨?_⟩⟩
        · rw [HT1.out, HEL.out, HTT.out]; simp [Int.add_assoc]
        · have h4 : Kd.R (Kd.int .i64) 3 w11 w0.heap.size oki ve (rising tt xe.length) := Kd.R_reok rfl HR1.out (fun k hk => HRE.out.1 k hk)
          have h5 := Kd.H_back (Kd.H_step HH.out (fun k _ hn hlt => HK3.out.2 k hlt hn)) (Kd.M_row h4) (fun _ hk => hk)
          rwa [Int.toNat_natCast] at h5
        · rw [List.map_set, rising_length, HEL.out, HL.out]
          apply List.ext_getElem (by simp)
          intro n h6 h7
          rw [List.getElem_set]
          split
          · rename_i h8; subst h8; simp
          · rfl
        · rw [HEL.out, HTT.out]; exact HST.out.2
        · exact HK.out.then_ HK3.out (fun k hk => .inl (HOKI.out k hk).1)
      case measure => simp [intOf]; omega
    · obtain rfl : i = l.length := by omega
      go_wp2
      go_ret
      have hT := HT.out
      rw [List.take_length, List.drop_length, List.append_nil] at hT
      exact ⟨⟨by simp, by rw [← hT]; exact HR.out⟩, HB2.out, HK.out⟩
theorem laws_markIntSS.calls (ok : Nat → Prop) (v : Value) (l : List (List Int)) (a : Int) (w0 w : World) (hB : Below w0.heap.size w0 w) (hS : Kd.S (Kd.slice 3 (Kd.int .i64)) 22 w w0.heap.size ok v l)
    (h0 : 0 ≤ a) (h1 : a ≤ 562949953421312) (hl : l.length ≤ 1048576) (hx : ∀ x ∈ l, x.length ≤ 1048576) :
    Calls Try.prog 40 #[v, .int .i64 a] w fun e w' => (e = .returned (.int .i64 (a + total l)) ∧ ∃ r, Kd.S (Kd.slice 3 (Kd.int .i64)) 22 w' w0.heap.size ok v r) ∧ Below w0.heap.size w0 w' ∧ Kept w w' ok :=
  (laws_markIntSS.callsT ok v l a w0 w hB hS h0 h1 hl hx).mono fun _ _ ⟨⟨he, hs⟩, hb, hk⟩ => ⟨⟨he, _, hs⟩, hb, hk⟩
end Go.Proofs.Ytcjjmfpkhhdmlaa.G

namespace Go.Proofs.Ytcjjmfpkhhdmlaa.G
open Go.RowKit Go.Proofs.YtcjjmfpkhhdmlaaW.PrintWords Go.Proofs.YtcjjmfpkhhdmlaaW.PrintLast Go.Proofs.YtcjjmfpkhhdmlaaW.PrintMore
attribute [local go_sem] max2_int min2_int max_two min_two max_three min_three max_four min_four   -- for this text's walks alone
/-! ### spec_l05Floor: function 151 -/
def spec_l05Floor.f (a0 : Int) (a1 : Int) : Option (Int) := if a0 ≥ 0 then (if a1 = 0 then (none) else (some (wrap64 (Int.tdiv a0 a1)))) else (if a1 = 0 then (none) else (some (wrap64 (-(wrap64 (Int.tdiv (wrap64 ((wrap64 ((wrap64 (-a0)) + a1)) - 1)) a1))))))
set_option maxHeartbeats 8000000 in
set_option maxRecDepth 100000 in
theorem spec_l05Floor.calls (a0 : Int) (a1 : Int) (r : Int) (w : World) (h : spec_l05Floor.f a0 a1 = some r) :
    Calls Try.prog 151 #[.int .i64 a0, .int .i64 a1] w fun e w' => e = .returned (.int .i64 r) ∧ Drawn0 w w' := by
  have H : (if a0 ≥ 0 then (if a1 = 0 then (none) else (some (wrap64 (Int.tdiv a0 a1)))) else (if a1 = 0 then (none) else (some (wrap64 (-(wrap64 (Int.tdiv (wrap64 ((wrap64 ((wrap64 (-a0)) + a1)) - 1)) a1))))))) = some r := h
  clear h
  by_cases c3 : a0 ≥ 0
  · rw [if_pos c3] at H
    have c3b0 : decide (0 ≤ a0) = true := decide_eq_true c3
    clear c3
    by_cases c4 : a1 = 0
    · rw [if_pos c4] at H
      exact absurd H (by simp)
    · rw [if_neg c4] at H
      have c4b0 : (a1 == 0) = false := beq_eq_false_iff_ne.mpr c4
      have c4b1 : (a1 != 0) = true := bne_iff_ne.mpr c4
      obtain rfl := Option.some.inj H
      go_enter Try.func151, Try.ntmps151
      go_wp2
      go_ret
      exact ⟨by first | rfl | (simp; done) | (simp [*]; done), by repeat (first | exact Drawn0.refl _ | apply Drawn0.step)⟩
  · rw [if_neg c3] at H
    have c3b0 : decide (0 ≤ a0) = false := decide_eq_false c3
    clear c3
    by_cases c5 : a1 = 0
    · rw [if_pos c5] at H
      exact absurd H (by simp)
    · rw [if_neg c5] at H
      have c5b0 : (a1 == 0) = false := beq_eq_false_iff_ne.mpr c5
      have c5b1 : (a1 != 0) = true := bne_iff_ne.mpr c5
      obtain rfl := Option.some.inj H
      go_enter Try.func151, Try.ntmps151
      go_wp2
      go_ret
      exact ⟨by first | rfl | (simp; done) | (simp [*]; done), by repeat (first | exact Drawn0.refl _ | apply Drawn0.step)⟩
end Go.Proofs.Ytcjjmfpkhhdmlaa.G

namespace Go.Proofs.Ytcjjmfpkhhdmlaa.G
open Go.RowKit Go.Proofs.YtcjjmfpkhhdmlaaW.PrintWords Go.Proofs.YtcjjmfpkhhdmlaaW.PrintLast Go.Proofs.YtcjjmfpkhhdmlaaW.PrintMore
attribute [local go_sem] max2_int min2_int max_two min_two max_three min_three max_four min_four   -- for this text's walks alone
/-! palettes, told -/
def lowJ (j : Int) : List (List Int) → Int → Int
  | [], a => a
  | px :: t, a => lowJ j t (if rd px j < a then rd px j else a)
def highJ (j : Int) : List (List Int) → Int → Int
  | [], a => a
  | px :: t, a => highJ j t (if rd px j > a then rd px j else a)
def diffJ (box : List (List Int)) (j : Int) : Int := highJ j box 0 - lowJ j box 255
def wideStep (box : List (List Int)) (j : Int) (s : Int × Int) : Int × Int := if diffJ box j > s.1 then (diffJ box j, j) else s
/-- how wide a box is, and in which number -/
def wideM (box : List (List Int)) : Int × Int := wideStep box 2 (wideStep box 1 (wideStep box 0 (0, 0)))
/-- a box sorted by a number -/
def sortV (box : List (List Int)) (j v : Int) : List (List Int) := box.filter fun px => decide (rd px j = v)
def sortGo (box : List (List Int)) (j : Int) : Nat → List (List Int)
  | 0 => []
  | n + 1 => sortGo box j n ++ sortV box j n
def sortM (box : List (List Int)) (j : Int) : List (List Int) := sortGo box j 256
theorem px_rd {px : List Int} (h : isPx px = true) (j : Int) (h0 : 0 ≤ j) (h1 : j < 3) : 0 ≤ rd px j ∧ rd px j ≤ 255 ∧ px.length = 3 := by
  obtain ⟨a, b, c, rfl, ha, ha', hb, hb', hc, hc'⟩ := isPx_three h
  have : j = 0 ∨ j = 1 ∨ j = 2 := by omega
  rcases this with rfl | rfl | rfl
  · exact ⟨ha, ha', rfl⟩
  · exact ⟨hb, hb', rfl⟩
  · exact ⟨hc, hc', rfl⟩
theorem lowJ_in (j : Int) (h0 : 0 ≤ j) (h1 : j < 3) (box : List (List Int)) (hp : ∀ px ∈ box, isPx px = true) : ∀ a, 0 ≤ a → a ≤ 255 → 0 ≤ lowJ j box a ∧ lowJ j box a ≤ 255 := by
  induction box with
  | nil => intro a ha hb; exact ⟨ha, hb⟩
  | cons px t ih =>
    intro a ha hb
    have h2 := px_rd (hp px List.mem_cons_self) j h0 h1
    simp only [lowJ]
    apply ih (fun q hq => hp q (List.mem_cons_of_mem _ hq))
    · split <;> omega
    · split <;> omega
theorem highJ_in (j : Int) (h0 : 0 ≤ j) (h1 : j < 3) (box : List (List Int)) (hp : ∀ px ∈ box, isPx px = true) : ∀ a, 0 ≤ a → a ≤ 255 → 0 ≤ highJ j box a ∧ highJ j box a ≤ 255 := by
  induction box with
  | nil => intro a ha hb; exact ⟨ha, hb⟩
  | cons px t ih =>
    intro a ha hb
    have h2 := px_rd (hp px List.mem_cons_self) j h0 h1
    simp only [highJ]
    apply ih (fun q hq => hp q (List.mem_cons_of_mem _ hq))
    · split <;> omega
    · split <;> omega
theorem wideM_in (box : List (List Int)) (hp : ∀ px ∈ box, isPx px = true) : 0 ≤ (wideM box).1 ∧ (wideM box).1 ≤ 255 ∧ 0 ≤ (wideM box).2 ∧ (wideM box).2 ≤ 2 := by
  have hd : ∀ j : Int, 0 ≤ j → j < 3 → diffJ box j ≤ 255 := fun j h0 h1 => by
    have a1 := lowJ_in j h0 h1 box hp 255 (by omega) (by omega)
    have a2 := highJ_in j h0 h1 box hp 0 (by omega) (by omega)
    unfold diffJ; omega
  have step : ∀ (j : Int) (s : Int × Int), 0 ≤ j → j ≤ 2 → (0 ≤ s.1 ∧ s.1 ≤ 255 ∧ 0 ≤ s.2 ∧ s.2 ≤ 2) → (0 ≤ (wideStep box j s).1 ∧ (wideStep box j s).1 ≤ 255 ∧ 0 ≤ (wideStep box j s).2 ∧ (wideStep box j s).2 ≤ 2) := by
    intro j s h0 h1 hs
    have := hd j h0 (by omega)
    unfold wideStep
    split
    · exact ⟨by simp only []; omega, this, h0, h1⟩
    · exact hs
  exact step 2 _ (by omega) (by omega) (step 1 _ (by omega) (by omega) (step 0 _ (by omega) (by omega) ⟨by simp, by simp, by simp, by simp⟩))
/-- the boxes: which one is the widest (-1: none is wide), how wide, in which number -/
def pickGo : List (List (List Int)) → Int → Int × Int × Int → Int × Int × Int
  | [], _, s => s
  | x :: t, i, s => pickGo t (i + 1) (if (wideM x).1 > s.2.1 then (i, (wideM x).1, (wideM x).2) else s)
def pickM (boxes : List (List (List Int))) : Int × Int × Int := pickGo boxes 0 (-1, 0, 0)
/-- the widest box is parted -/
def partM (boxes : List (List (List Int))) : Option (List (List (List Int))) :=
  if (pickM boxes).1 < 0 then none
  else some (boxes.set (pickM boxes).1.toNat ((sortM (boxes.getD (pickM boxes).1.toNat []) (pickM boxes).2.2).take ((sortM (boxes.getD (pickM boxes).1.toNat []) (pickM boxes).2.2).length / 2)) ++ [(sortM (boxes.getD (pickM boxes).1.toNat []) (pickM boxes).2.2).drop ((sortM (boxes.getD (pickM boxes).1.toNat []) (pickM boxes).2.2).length / 2)])
def palGo (k : Int) : Nat → List (List (List Int)) → List (List (List Int))
  | 0, bs => bs
  | f + 1, bs => if (bs.length : Int) < k then (match partM bs with | none => bs | some bs' => palGo k f bs') else bs
def sumJ (j : Int) : List (List Int) → Int
  | [] => 0
  | px :: t => rd px j + sumJ j t
def rndM (a b : Int) : Int := (2 * a + b) / (2 * b)
def meanM (box : List (List Int)) : List Int := [rndM (sumJ 0 box) box.length, rndM (sumJ 1 box) box.length, rndM (sumJ 2 box) box.length]
def palOk (list : List (List Int)) (k : Int) : Bool := decide (list.length ≤ 4096) && list.all isPx && decide (list.length ≠ 0) && (decide (1 ≤ k) && decide (k ≤ 256))
def palM (list : List (List Int)) (k : Int) : List (List Int) := if palOk list k then (palGo k k.toNat [list]).map meanM else []
/-- boxes of pixels -/
def BoxesOk (bs : List (List (List Int))) : Prop := (∀ b ∈ bs, ∀ px ∈ b, isPx px = true) ∧ (∀ b ∈ bs, 1 ≤ b.length ∧ b.length ≤ 4096) ∧ bs.length ≤ 256
theorem sortGo_mem (box : List (List Int)) (j : Int) : ∀ n px, px ∈ sortGo box j n → px ∈ box := by
  intro n
  induction n with
  | zero => intro px h; simp [sortGo] at h
  | succ n ih =>
    intro px h
    simp only [sortGo, List.mem_append] at h
    rcases h with h | h
    · exact ih px h
    · exact (List.mem_filter.1 h).1
theorem sortGo_cons (px : List Int) (t : List (List Int)) (j : Int) : ∀ n : Nat, (sortGo (px :: t) j n).length = (sortGo t j n).length + (if 0 ≤ rd px j ∧ rd px j < n then 1 else 0) := by
  intro n
  induction n with
  | zero => rw [if_neg (by omega)]; rfl
  | succ n ih =>
    simp only [sortGo, List.length_append]
    rw [ih]
    have e : (sortV (px :: t) j n).length = (sortV t j n).length + (if rd px j = n then 1 else 0) := by
      unfold sortV
      rw [List.filter_cons]
      by_cases h : rd px j = n
      · rw [if_pos (by simpa using h), if_pos h]; simp
      · rw [if_neg (by simpa using h), if_neg h]; simp
    rw [e]
    by_cases h1 : 0 ≤ rd px j ∧ rd px j < n
    · rw [if_pos h1, if_neg (by omega), if_pos (by omega)]; omega
    · rw [if_neg h1]
      by_cases h2 : rd px j = n
      · rw [if_pos h2, if_pos (by omega)]; omega
      · rw [if_neg h2, if_neg (by omega)]; omega
theorem sortM_length (box : List (List Int)) (hp : ∀ px ∈ box, isPx px = true) (j : Int) (h0 : 0 ≤ j) (h1 : j ≤ 2) : (sortM box j).length = box.length := by
  unfold sortM
  induction box with
  | nil =>
    have : ∀ n, sortGo [] j n = [] := by
      intro n
      induction n with
      | zero => rfl
      | succ n ih => simp [sortGo, ih, sortV]
    rw [this]
  | cons px t ih =>
    rw [sortGo_cons, ih (fun q hq => hp q (List.mem_cons_of_mem _ hq))]
    have := px_rd (hp px List.mem_cons_self) j h0 (by omega)
    rw [if_pos ⟨this.1, by omega⟩]
    rfl
theorem sortM_px (box : List (List Int)) (hp : ∀ px ∈ box, isPx px = true) (j : Int) : ∀ px ∈ sortM box j, isPx px = true := fun px h => hp px (sortGo_mem box j 256 px h)
theorem pickGo_range : ∀ (bs : List (List (List Int))) (i : Int) (s : Int × Int × Int), (∀ b ∈ bs, ∀ px ∈ b, isPx px = true) → 0 ≤ i → (-1 ≤ s.1 ∧ s.1 < i ∧ 0 ≤ s.2.1 ∧ s.2.1 ≤ 255 ∧ 0 ≤ s.2.2 ∧ s.2.2 ≤ 2) → (-1 ≤ (pickGo bs i s).1 ∧ (pickGo bs i s).1 < i + bs.length ∧ 0 ≤ (pickGo bs i s).2.1 ∧ (pickGo bs i s).2.1 ≤ 255 ∧ 0 ≤ (pickGo bs i s).2.2 ∧ (pickGo bs i s).2.2 ≤ 2) := by
  intro bs
  induction bs with
  | nil => intro i s _ _ h; simpa [pickGo] using h
  | cons x t ih =>
    intro i s hp hi hs
    have hw := wideM_in x (hp x List.mem_cons_self)
    simp only [pickGo, List.length_cons]
    have := ih (i + 1) (if (wideM x).1 > s.2.1 then (i, (wideM x).1, (wideM x).2) else s) (fun b hb => hp b (List.mem_cons_of_mem _ hb)) (by omega) (by
      split
      · exact ⟨by simp only []; omega, by simp only []; omega, hw.1, hw.2.1, hw.2.2.1, hw.2.2.2⟩
      · exact ⟨hs.1, by omega, hs.2.2⟩)
    push_cast
    omega
theorem pickM_range (bs : List (List (List Int))) (h : ∀ b ∈ bs, ∀ px ∈ b, isPx px = true) : -1 ≤ (pickM bs).1 ∧ (pickM bs).1 < bs.length ∧ 0 ≤ (pickM bs).2.2 ∧ (pickM bs).2.2 ≤ 2 := by
  have := pickGo_range bs 0 (-1, 0, 0) h (by omega) ⟨by simp, by simp, by simp, by simp, by simp, by simp⟩
  unfold pickM
  omega
/-- the box that is picked is wide, so it has two pixels at least -/
theorem wide_two (box : List (List Int)) (hp : ∀ px ∈ box, isPx px = true) (h : 0 < (wideM box).1) : 2 ≤ box.length := by
  match box, hp, h with
  | [], _, h => simp [wideM, wideStep, diffJ, highJ, lowJ] at h
  | [px], hp, h =>
    exfalso
    have hd : ∀ j : Int, 0 ≤ j → j ≤ 2 → diffJ [px] j ≤ 0 := by
      intro j h0 h1
      have hr := px_rd (hp px List.mem_cons_self) j h0 (by omega)
      unfold diffJ
      simp only [highJ, lowJ]
      split <;> split <;> omega
    have step : ∀ (j : Int) (s : Int × Int), 0 ≤ j → j ≤ 2 → s.1 = 0 → (wideStep [px] j s).1 = 0 := by
      intro j s h0 h1 hs
      unfold wideStep
      rw [if_neg (by have := hd j h0 h1; omega)]
      exact hs
    have : (wideM [px]).1 = 0 := step 2 _ (by omega) (by omega) (step 1 _ (by omega) (by omega) (step 0 _ (by omega) (by omega) rfl))
    omega
  | a :: b :: t, _, _ => simp
theorem pickGo_wide : ∀ (bs : List (List (List Int))) (i : Nat) (all : List (List (List Int))) (s : Int × Int × Int), all.drop i = bs → (0 ≤ s.1 → 0 < (wideM (all.getD s.1.toNat [])).1 ∧ s.2.1 = (wideM (all.getD s.1.toNat [])).1) → (s.1 < 0 → s.2.1 = 0) →
    (0 ≤ (pickGo bs i s).1 → 0 < (wideM (all.getD (pickGo bs i s).1.toNat [])).1) := by
  intro bs
  induction bs with
  | nil => intro i all s _ h1 _ h; exact (h1 h).1
  | cons x t ih =>
    intro i all s hd h1 h2
    simp only [pickGo]
    have hi : i < all.length := by
      by_cases h : i < all.length
      · exact h
      · rw [List.drop_of_length_le (by omega)] at hd; cases hd
    have hx : all.getD i [] = x := by
      rw [List.drop_eq_getElem_cons hi] at hd
      injection hd with hd _
      rw [List.getD_eq_getElem?_getD, List.getElem?_eq_getElem hi]
      exact hd
    have ht : all.drop (i + 1) = t := by
      rw [List.drop_eq_getElem_cons hi] at hd
      injection hd
    have := ih (i + 1) all (if (wideM x).1 > s.2.1 then ((i : Int), (wideM x).1, (wideM x).2) else s) ht (by
      split
      · rename_i hc
        intro _
        simp only [Int.toNat_natCast]
        rw [hx]
        refine ⟨?_, rfl⟩
        by_cases hs : 0 ≤ s.1
        · have := h1 hs; omega
        · have := h2 (by omega); omega
      · exact h1) (by
      split
      · intro h; simp only [] at h; omega
      · exact h2)
    rw [show ((i + 1 : Nat) : Int) = (i : Int) + 1 by omega] at this
    exact this
theorem pickM_wide (bs : List (List (List Int))) (hp : ∀ b ∈ bs, ∀ px ∈ b, isPx px = true) (h : 0 ≤ (pickM bs).1) : 2 ≤ (bs.getD (pickM bs).1.toNat []).length := by
  have hr := pickM_range bs hp
  have hi : (pickM bs).1.toNat < bs.length := by omega
  refine wide_two _ ?_ (pickGo_wide bs 0 bs (-1, 0, 0) rfl (fun h => by simp at h) (fun _ => rfl) h)
  rw [List.getD_eq_getElem?_getD, List.getElem?_eq_getElem hi]
  exact hp _ (List.getElem_mem hi)
theorem partM_ok {bs bs' : List (List (List Int))} (h : BoxesOk bs) (hl : bs.length < 256) (hq : partM bs = some bs') : BoxesOk bs' ∧ bs'.length = bs.length + 1 := by
  unfold partM at hq
  split at hq
  · cases hq
  · rename_i hp
    cases hq
    have hr := pickM_range bs h.1
    have hi : (pickM bs).1.toNat < bs.length := by omega
    have hw := pickM_wide bs h.1 (by omega)
    have hg : bs.getD (pickM bs).1.toNat [] = bs[(pickM bs).1.toNat] := by rw [List.getD_eq_getElem?_getD, List.getElem?_eq_getElem hi]; rfl
    have hmem := List.getElem_mem hi
    rw [hg] at hw ⊢
    obtain ⟨box, hbox⟩ : ∃ box, box = bs[(pickM bs).1.toNat] := ⟨_, rfl⟩
    rw [← hbox] at hw hmem ⊢
    have hpx := h.1 _ hmem
    have hlen := sortM_length box hpx (pickM bs).2.2 (by omega) (by omega)
    have hsp := sortM_px box hpx (pickM bs).2.2
    have hb := h.2.1 _ hmem
    generalize sortM box (pickM bs).2.2 = s at hlen hsp ⊢
    refine ⟨⟨fun b hb px hx => ?_, fun b hb => ?_, by simp; omega⟩, by simp⟩
    · rcases List.mem_append.1 hb with hb | hb
      · rcases List.mem_or_eq_of_mem_set hb with hb | rfl
        · exact h.1 b hb px hx
        · exact hsp px (List.mem_of_mem_take hx)
      · rw [List.mem_singleton.1 hb] at hx
        exact hsp px (List.mem_of_mem_drop hx)
    · rcases List.mem_append.1 hb with hb | hb
      · rcases List.mem_or_eq_of_mem_set hb with hb | rfl
        · exact h.2.1 b hb
        · rw [List.length_take]; omega
      · rw [List.mem_singleton.1 hb, List.length_drop]; omega
theorem sumJ_snoc (j : Int) (l : List (List Int)) (px : List Int) : sumJ j (l ++ [px]) = sumJ j l + rd px j := by
  induction l with
  | nil => simp [sumJ]
  | cons x t ih => simp only [List.cons_append, sumJ]; rw [ih]; omega
theorem sumJ_take (j : Int) (box : List (List Int)) (n : Nat) (h : n < box.length) : sumJ j (box.take (n + 1)) = sumJ j (box.take n) + rd box[n] j := by
  rw [List.take_succ_eq_append_getElem h, sumJ_snoc]
theorem sumJ_in (j : Int) (h0 : 0 ≤ j) (h1 : j < 3) (box : List (List Int)) (hp : ∀ px ∈ box, isPx px = true) : 0 ≤ sumJ j box ∧ sumJ j box ≤ box.length * 255 := by
  induction box with
  | nil => simp [sumJ]
  | cons px t ih =>
    have h2 := px_rd (hp px List.mem_cons_self) j h0 h1
    have h3 := ih (fun q hq => hp q (List.mem_cons_of_mem _ hq))
    simp only [sumJ, List.length_cons]
    push_cast
    omega
theorem meanM_take (box : List (List Int)) (j : Nat) (h : j < 3) : (meanM box).take (j + 1) = (meanM box).take j ++ [rndM (sumJ j box) box.length] := by
  have : j = 0 ∨ j = 1 ∨ j = 2 := by omega
  rcases this with rfl | rfl | rfl <;> rfl
end Go.Proofs.Ytcjjmfpkhhdmlaa.G

namespace Go.Proofs.Ytcjjmfpkhhdmlaa.G
open Go.RowKit Go.Proofs.YtcjjmfpkhhdmlaaW.PrintWords Go.Proofs.YtcjjmfpkhhdmlaaW.PrintLast Go.Proofs.YtcjjmfpkhhdmlaaW.PrintMore
attribute [local go_sem] max2_int min2_int max_two min_two max_three min_three max_four min_four   -- for this text's walks alone
/-! ### spec_l05Round: function 106 -/
def spec_l05Round.f (a0 : Int) (a1 : Int) : Option (Int) := (spec_l05Floor.f (wrap64 ((wrap64 (2 * a0)) + a1)) (wrap64 (2 * a1))).bind fun t369 => (some t369)
set_option maxHeartbeats 8000000 in
set_option maxRecDepth 100000 in
theorem spec_l05Round.calls (a0 : Int) (a1 : Int) (r : Int) (w : World) (h : spec_l05Round.f a0 a1 = some r) :
    Calls Try.prog 106 #[.int .i64 a0, .int .i64 a1] w fun e w' => e = .returned (.int .i64 r) ∧ Drawn0 w w' := by
  have H : ((spec_l05Floor.f (wrap64 ((wrap64 (2 * a0)) + a1)) (wrap64 (2 * a1))).bind fun t369 => (some t369)) = some r := h
  clear h
  replace H := Option.bind_eq_some_iff.mp H
  obtain ⟨t369, A30, H⟩ := H
  replace H : (some t369) = some r := H
  have A3 := Aside0.mk A30
  clear A30
  obtain rfl := Option.some.inj H
  go_enter Try.func106, Try.ntmps106
  go_wp2_with (first | ((with_reducible refine gate_callee (f := 151) rfl ?_); refine goesL_ (some 11) rfl rfl Try.func151 (by kernel_rfl) rfl #[.int .i64 (wrap64 ((wrap64 (2 * a0)) + a1)), .int .i64 (wrap64 (2 * a1))] rfl (by (try simp only [List.map_toArray, List.map_cons, List.map_nil]); first | done | rfl | (simp only [List.length_drop, List.length_take]; rfl)) ?_; (with_reducible refine (spec_l05Floor.calls (wrap64 ((wrap64 (2 * a0)) + a1)) (wrap64 (2 * a1)) t369 _ A3.out).mono ?_); rintro e w' ⟨rfl, ⟨nd, rfl⟩⟩; refine ⟨_, rfl, ?_⟩))
  go_ret
  exact ⟨by first | rfl | (simp; done) | (simp [*]; done), by repeat (first | exact Drawn0.refl _ | apply Drawn0.step)⟩
theorem tdiv_pos (a b : Int) (ha : 0 ≤ a) : Int.tdiv a b = a / b := Int.tdiv_eq_ediv_of_nonneg ha
theorem rndM_in (a b : Int) (h0 : 0 ≤ a) (h1 : a ≤ 2000000) (h2 : 1 ≤ b) (h3 : b ≤ 4096) : 0 ≤ rndM a b ∧ rndM a b ≤ 4004096 := by
  unfold rndM
  exact ⟨Int.ediv_nonneg (by omega) (by omega), Int.le_trans (Int.ediv_le_self _ (by omega)) (by omega)⟩
theorem spec_l05Round.val (a b : Int) (h0 : 0 ≤ a) (h1 : a ≤ 2000000) (h2 : 1 ≤ b) (h3 : b ≤ 4096) : spec_l05Round.f a b = some (rndM a b) := by
  have hr := rndM_in a b h0 h1 h2 h3
  unfold spec_l05Round.f spec_l05Floor.f
  rw [wrap_in (2 * a) (by omega) (by omega), wrap_in (2 * a + b) (by omega) (by omega), wrap_in (2 * b) (by omega) (by omega), if_pos (by omega), if_neg (by omega), tdiv_pos _ _ (by omega)]
  unfold rndM at hr
  rw [wrap_in _ (by omega) (by omega)]
  rfl
end Go.Proofs.Ytcjjmfpkhhdmlaa.G

namespace Go.Proofs.Ytcjjmfpkhhdmlaa.G
open Go.RowKit Go.Proofs.YtcjjmfpkhhdmlaaW.PrintWords Go.Proofs.YtcjjmfpkhhdmlaaW.PrintLast Go.Proofs.YtcjjmfpkhhdmlaaW.PrintMore
attribute [local go_sem] max2_int min2_int max_two min_two max_three min_three max_four min_four   -- for this text's walks alone
/-! ### spec_l21Wide: function 123 -/
mutual
def spec_l21Wide.l0 : Nat → List (List Int) → Int → Int → Int → Option (Int × Int)
  | 0, _, _, _, _ => none
  | k + 1, x0, x4, x5, x6 => if x6 < 3 then (spec_l21Wide.l1 k x0 x4 x5 x6 255 0 0) else (some (x4, x5))
def spec_l21Wide.l1 : Nat → List (List Int) → Int → Int → Int → Int → Int → Int → Option (Int × Int)
  | 0, _, _, _, _, _, _, _ => none
  | k + 1, x0, x4, x5, x6, x7, x8, x9 => if x9 < (x0.length : Int) then (if 0 ≤ x9 then (if 0 ≤ x6 then (if x6 < ((rd_L3 x0 x9).length : Int) then (if (rd (rd_L3 x0 x9) x6) < x7 then (if (rd (rd_L3 x0 x9) x6) > x8 then (spec_l21Wide.l1 k x0 x4 x5 x6 (rd (rd_L3 x0 x9) x6) (rd (rd_L3 x0 x9) x6) (wrap64 (x9 + 1))) else (spec_l21Wide.l1 k x0 x4 x5 x6 (rd (rd_L3 x0 x9) x6) x8 (wrap64 (x9 + 1)))) else (if (rd (rd_L3 x0 x9) x6) > x8 then (spec_l21Wide.l1 k x0 x4 x5 x6 x7 (rd (rd_L3 x0 x9) x6) (wrap64 (x9 + 1))) else (spec_l21Wide.l1 k x0 x4 x5 x6 x7 x8 (wrap64 (x9 + 1))))) else (none)) else (none)) else (none)) else (if (wrap64 (x8 - x7)) > x4 then (spec_l21Wide.l0 k x0 (wrap64 (x8 - x7)) x6 (wrap64 (x6 + 1))) else (spec_l21Wide.l0 k x0 x4 x5 (wrap64 (x6 + 1))))
end
def spec_l21Wide.f (k : Nat) (l0 : List (List Int)) : Option (Int × Int) := spec_l21Wide.l0 k l0 0 0 0
theorem spec_l21Wide.mono_l : ∀ k, (∀ y0 y1 y2 y3, LeO (spec_l21Wide.l0 k y0 y1 y2 y3) (spec_l21Wide.l0 (k + 1) y0 y1 y2 y3)) ∧ (∀ y0 y1 y2 y3 y4 y5 y6, LeO (spec_l21Wide.l1 k y0 y1 y2 y3 y4 y5 y6) (spec_l21Wide.l1 (k + 1) y0 y1 y2 y3 y4 y5 y6))
  | 0 => ⟨fun _ _ _ _ r h => by simp [spec_l21Wide.l0] at h, fun _ _ _ _ _ _ _ r h => by simp [spec_l21Wide.l1] at h⟩
  | k + 1 => by
    obtain ⟨ih0, ih1⟩ := spec_l21Wide.mono_l k
    refine ⟨?_, ?_⟩
    · intro y0 y1 y2 y3
      unfold spec_l21Wide.l0
      repeat' first
      | (with_reducible exact ih0 _ _ _ _)
      | (with_reducible exact ih1 _ _ _ _ _ _ _)
      | (with_reducible exact LeO.refl _)
      | (with_reducible exact LeO.none _)
      | (with_reducible refine LeO.ite ?_ ?_)
      | (with_reducible refine LeO.bind ?_ (fun _ => ?_))
      | exact ih0 _ _ _ _
      | exact ih1 _ _ _ _ _ _ _
      | exact LeO.none _
      | refine LeO.ite ?_ ?_
      | refine LeO.bind ?_ (fun _ => ?_)
    · intro y0 y1 y2 y3 y4 y5 y6
      unfold spec_l21Wide.l1
      repeat' first
      | (with_reducible exact ih0 _ _ _ _)
      | (with_reducible exact ih1 _ _ _ _ _ _ _)
      | (with_reducible exact LeO.refl _)
      | (with_reducible exact LeO.none _)
      | (with_reducible refine LeO.ite ?_ ?_)
      | (with_reducible refine LeO.bind ?_ (fun _ => ?_))
      | exact ih0 _ _ _ _
      | exact ih1 _ _ _ _ _ _ _
      | exact LeO.none _
      | refine LeO.ite ?_ ?_
      | refine LeO.bind ?_ (fun _ => ?_)
theorem spec_l21Wide.mono : ∀ a0 k, LeO (spec_l21Wide.f k a0) (spec_l21Wide.f (k + 1) a0) := by
  intro a0 k
  obtain ⟨ih0, ih1⟩ := spec_l21Wide.mono_l k
  unfold spec_l21Wide.f
  repeat' first
      | (with_reducible exact ih0 _ _ _ _)
      | (with_reducible exact ih1 _ _ _ _ _ _ _)
      | (with_reducible exact LeO.refl _)
      | (with_reducible exact LeO.none _)
      | (with_reducible refine LeO.ite ?_ ?_)
      | (with_reducible refine LeO.bind ?_ (fun _ => ?_))
      | exact ih0 _ _ _ _
      | exact ih1 _ _ _ _ _ _ _
      | exact LeO.none _
      | refine LeO.ite ?_ ?_
      | refine LeO.bind ?_ (fun _ => ?_)
set_option maxHeartbeats 8000000 in
set_option maxRecDepth 100000 in
theorem spec_l21Wide.calls (k : Nat) (A0 : Option Addr) (c0 : Nat) (l0 : List (List Int)) (r1 : Int) (r2 : Int) (w : World) (hr0 : Kd.C (Kd.slice 3 (Kd.int .i64)) w A0 l0.length l0) (hc0 : l0.length ≤ c0) (h : spec_l21Wide.f k l0 = some (r1, r2)) :
    Calls Try.prog 123 #[.slice A0 l0.length c0] w fun e w' => e = .returned (.tuple #[.int .i64 r1, .int .i64 r2]) ∧ Drawn0 w w' := by
  have HR0 := Aside0.mk hr0
  have HC0 := Aside0.mk hc0
  clear hr0 hc0
  have H : (spec_l21Wide.l0 k l0 0 0 0) = some (r1, r2) := h
  clear h
  have H' := Aside0.mk H
  clear H
  go_enter Try.func123, Try.ntmps123
  go_wp2
  go_loopg [4, 5, 6] k (fun kq v4 v5 v6 w' => ∃ (x4_1 : Int) (x5_1 : Int) (x6_1 : Int), v4 = .int .i64 x4_1 ∧ v5 = .int .i64 x5_1 ∧ v6 = .int .i64 x6_1 ∧ Aside0 (spec_l21Wide.l0 kq l0 x4_1 x5_1 x6_1 = some (r1, r2)) ∧ Aside0 (kq ≤ k) ∧ Drawn0 w w')
  case atStart => exact ⟨(0), (0), (0), (by first | rfl | (simp; done) | (simp [*]; done)), (by first | rfl | (simp; done) | (simp [*]; done)), (by first | rfl | (simp; done) | (simp [*]; done)), H', ⟨Nat.le_refl _⟩, by repeat (first | exact Drawn0.refl _ | apply Drawn0.step)⟩
  case round =>
    clear H'
    try clear c1
    obtain ⟨x4_1, x5_1, x6_1, rfl, rfl, rfl, HA, HK1, ⟨m1, rfl⟩⟩ := hrel
    cases gk with
    | zero => exact absurd HA.out (by simp [spec_l21Wide.l0])
    | succ k1 =>
      have H := HA.out
      clear HA
      simp only [spec_l21Wide.l0] at H
      by_cases c2 : x6_1 < 3
      · rw [if_pos c2] at H
        have c2b0 : decide (x6_1 < 3) = true := decide_eq_true c2
        clear c2
        have H' := Aside0.mk H
        clear H
        go_wp2
        go_loopg [7, 8, 9] k1 (fun kq v7 v8 v9 w' => ∃ (x7_2 : Int) (x8_2 : Int) (x9_2 : Int), v7 = .int .i64 x7_2 ∧ v8 = .int .i64 x8_2 ∧ v9 = .int .i64 x9_2 ∧ Aside0 (spec_l21Wide.l1 kq l0 x4_1 x5_1 x6_1 x7_2 x8_2 x9_2 = some (r1, r2)) ∧ Aside0 (kq ≤ k1) ∧ Drawn0 w w')
        case atStart => exact ⟨(255), (0), (0), (by first | rfl | (simp; done) | (simp [*]; done)), (by first | rfl | (simp; done) | (simp [*]; done)), (by first | rfl | (simp; done) | (simp [*]; done)), H', ⟨Nat.le_refl _⟩, by repeat (first | exact Drawn0.refl _ | apply Drawn0.step)⟩
        case round =>
          clear H'
          try clear c1
          try clear c2
          try clear c2b0
          try clear p2
          obtain ⟨x7_2, x8_2, x9_2, rfl, rfl, rfl, HA, HK2, ⟨m2, rfl⟩⟩ := hrel
          cases gk with
          | zero => exact absurd HA.out (by simp [spec_l21Wide.l1])
          | succ k2 =>
            have H := HA.out
            clear HA
            simp only [spec_l21Wide.l1] at H
            by_cases c3 : x9_2 < (l0.length : Int)
            · rw [if_pos c3] at H
              have c3b0 : decide (x9_2 < (l0.length : Int)) = true := decide_eq_true c3
              clear c3
              by_cases c4 : 0 ≤ x9_2
              · rw [if_pos c4] at H
                have c4b0 : decide (0 ≤ x9_2) = true := decide_eq_true c4
                clear c4
                by_cases c5 : 0 ≤ x6_1
                · rw [if_pos c5] at H
                  have c5b0 : decide (0 ≤ x6_1) = true := decide_eq_true c5
                  clear c5
                  by_cases c6 : x6_1 < ((rd_L3 l0 x9_2).length : Int)
                  · rw [if_pos c6] at H
                    have c6b0 : decide (x6_1 < ((rd_L3 l0 x9_2).length : Int)) = true := decide_eq_true c6
                    clear c6
                    by_cases c7 : (rd (rd_L3 l0 x9_2) x6_1) < x7_2
                    · rw [if_pos c7] at H
                      have c7b0 : decide ((rd (rd_L3 l0 x9_2) x6_1) < x7_2) = true := decide_eq_true c7
                      clear c7
                      by_cases c8 : (rd (rd_L3 l0 x9_2) x6_1) > x8_2
                      · rw [if_pos c8] at H
                        have c8b0 : decide (x8_2 < (rd (rd_L3 l0 x9_2) x6_1)) = true := decide_eq_true c8
                        clear c8
                        have H' := Aside0.mk H
                        clear H
                        have p387 : 0 ≤ (x9_2 : Int) := of_decide_eq_true (by first | (with_reducible assumption) | assumption)
                        have q387 : x9_2 < (l0.length : Int) := of_decide_eq_true (by first | (with_reducible assumption) | assumption)
                        obtain ⟨ad387, A387_0, c387_0, e387, hx387_0, hl387_0, hi387_0⟩ := at_L3 HR0.out x9_2 p387 q387
                        cases e387
                        have HR387_0 := Aside0.mk hi387_0
                        have HC387_0 := Aside0.mk hl387_0
                        clear hi387_0 hl387_0
                        replace p387 := eq_true p387
                        replace q387 := eq_true q387
                        have p388 : 0 ≤ (x6_1 : Int) := of_decide_eq_true (by first | (with_reducible assumption) | assumption)
                        have q388 : x6_1 < ((rd_L3 l0 x9_2).length : Int) := of_decide_eq_true (by first | (with_reducible assumption) | assumption)
                        obtain ⟨ad388, e388, hx388_0⟩ := Kd.at_int HR387_0.out x6_1 p388 q388
                        cases e388
                        replace p388 := eq_true p388
                        replace q388 := eq_true q388
                        have p389 : 0 ≤ (x9_2 : Int) := of_decide_eq_true (by first | (with_reducible assumption) | assumption)
                        have q389 : x9_2 < (l0.length : Int) := of_decide_eq_true (by first | (with_reducible assumption) | assumption)
                        obtain ⟨ad389, A389_0, c389_0, e389, hx389_0, hl389_0, hi389_0⟩ := at_L3 HR0.out x9_2 p389 q389
                        obtain rfl : ad387 = ad389 := (by injection e389)
                        have HR389_0 := Aside0.mk hi389_0
                        have HC389_0 := Aside0.mk hl389_0
                        clear hi389_0 hl389_0
                        replace p389 := eq_true p389
                        replace q389 := eq_true q389
                        have ea_ := Option.some.inj (hx387_0.symm.trans hx389_0)
                        injection ea_ with ea_ en_ ec_
                        subst ea_
                        subst ec_
                        clear en_
                        have p390 : 0 ≤ (x6_1 : Int) := of_decide_eq_true (by first | (with_reducible assumption) | assumption)
                        have q390 : x6_1 < ((rd_L3 l0 x9_2).length : Int) := of_decide_eq_true (by first | (with_reducible assumption) | assumption)
                        obtain ⟨ad390, e390, hx390_0⟩ := Kd.at_int HR389_0.out x6_1 p390 q390
                        cases e390
                        replace p390 := eq_true p390
                        replace q390 := eq_true q390
                        have p391 : 0 ≤ (x9_2 : Int) := of_decide_eq_true (by first | (with_reducible assumption) | assumption)
                        have q391 : x9_2 < (l0.length : Int) := of_decide_eq_true (by first | (with_reducible assumption) | assumption)
                        obtain ⟨ad391, A391_0, c391_0, e391, hx391_0, hl391_0, hi391_0⟩ := at_L3 HR0.out x9_2 p391 q391
                        obtain rfl : ad387 = ad391 := (by injection e391)
                        have HR391_0 := Aside0.mk hi391_0
                        have HC391_0 := Aside0.mk hl391_0
                        clear hi391_0 hl391_0
                        replace p391 := eq_true p391
                        replace q391 := eq_true q391
                        have ea_ := Option.some.inj (hx387_0.symm.trans hx391_0)
                        injection ea_ with ea_ en_ ec_
                        subst ea_
                        subst ec_
                        clear en_
                        have p392 : 0 ≤ (x6_1 : Int) := of_decide_eq_true (by first | (with_reducible assumption) | assumption)
                        have q392 : x6_1 < ((rd_L3 l0 x9_2).length : Int) := of_decide_eq_true (by first | (with_reducible assumption) | assumption)
                        obtain ⟨ad392, e392, hx392_0⟩ := Kd.at_int HR391_0.out x6_1 p392 q392
                        cases e392
                        replace p392 := eq_true p392
                        replace q392 := eq_true q392
                        have p393 : 0 ≤ (x9_2 : Int) := of_decide_eq_true (by first | (with_reducible assumption) | assumption)
                        have q393 : x9_2 < (l0.length : Int) := of_decide_eq_true (by first | (with_reducible assumption) | assumption)
                        obtain ⟨ad393, A393_0, c393_0, e393, hx393_0, hl393_0, hi393_0⟩ := at_L3 HR0.out x9_2 p393 q393
                        obtain rfl : ad387 = ad393 := (by injection e393)
                        have HR393_0 := Aside0.mk hi393_0
                        have HC393_0 := Aside0.mk hl393_0
                        clear hi393_0 hl393_0
                        replace p393 := eq_true p393
                        replace q393 := eq_true q393
                        have ea_ := Option.some.inj (hx387_0.symm.trans hx393_0)
                        injection ea_ with ea_ en_ ec_
                        subst ea_
                        subst ec_
                        clear en_
                        have p394 : 0 ≤ (x6_1 : Int) := of_decide_eq_true (by first | (with_reducible assumption) | assumption)
                        have q394 : x6_1 < ((rd_L3 l0 x9_2).length : Int) := of_decide_eq_true (by first | (with_reducible assumption) | assumption)
                        obtain ⟨ad394, e394, hx394_0⟩ := Kd.at_int HR393_0.out x6_1 p394 q394
                        cases e394
                        replace p394 := eq_true p394
                        replace q394 := eq_true q394
                        go_wp2
                        go_roundg k2
                        case measure => have := HK1.out; have := HK2.out; omega
                        case rel => exact ⟨(rd (rd_L3 l0 x9_2) x6_1), (rd (rd_L3 l0 x9_2) x6_1), (wrap64 (x9_2 + 1)), (by first | rfl | (simp; done) | (simp [*]; done)), (by first | rfl | (simp; done) | (simp [*]; done)), (by first | rfl | (simp; done) | (simp [*]; done)), H', ⟨by have := HK1.out; have := HK2.out; omega⟩, by repeat (first | exact Drawn0.refl _ | apply Drawn0.step)⟩
                      · rw [if_neg c8] at H
                        have c8b0 : decide (x8_2 < (rd (rd_L3 l0 x9_2) x6_1)) = false := decide_eq_false c8
                        clear c8
                        have H' := Aside0.mk H
                        clear H
                        have p387 : 0 ≤ (x9_2 : Int) := of_decide_eq_true (by first | (with_reducible assumption) | assumption)
                        have q387 : x9_2 < (l0.length : Int) := of_decide_eq_true (by first | (with_reducible assumption) | assumption)
                        obtain ⟨ad387, A387_0, c387_0, e387, hx387_0, hl387_0, hi387_0⟩ := at_L3 HR0.out x9_2 p387 q387
                        cases e387
                        have HR387_0 := Aside0.mk hi387_0
                        have HC387_0 := Aside0.mk hl387_0
                        clear hi387_0 hl387_0
                        replace p387 := eq_true p387
                        replace q387 := eq_true q387
                        have p388 : 0 ≤ (x6_1 : Int) := of_decide_eq_true (by first | (with_reducible assumption) | assumption)
                        have q388 : x6_1 < ((rd_L3 l0 x9_2).length : Int) := of_decide_eq_true (by first | (with_reducible assumption) | assumption)
                        obtain ⟨ad388, e388, hx388_0⟩ := Kd.at_int HR387_0.out x6_1 p388 q388
                        cases e388
                        replace p388 := eq_true p388
                        replace q388 := eq_true q388
                        have p389 : 0 ≤ (x9_2 : Int) := of_decide_eq_true (by first | (with_reducible assumption) | assumption)
                        have q389 : x9_2 < (l0.length : Int) := of_decide_eq_true (by first | (with_reducible assumption) | assumption)
                        obtain ⟨ad389, A389_0, c389_0, e389, hx389_0, hl389_0, hi389_0⟩ := at_L3 HR0.out x9_2 p389 q389
                        obtain rfl : ad387 = ad389 := (by injection e389)
                        have HR389_0 := Aside0.mk hi389_0
                        have HC389_0 := Aside0.mk hl389_0
                        clear hi389_0 hl389_0
                        replace p389 := eq_true p389
                        replace q389 := eq_true q389
                        have ea_ := Option.some.inj (hx387_0.symm.trans hx389_0)
                        injection ea_ with ea_ en_ ec_
                        subst ea_
                        subst ec_
                        clear en_
                        have p390 : 0 ≤ (x6_1 : Int) := of_decide_eq_true (by first | (with_reducible assumption) | assumption)
                        have q390 : x6_1 < ((rd_L3 l0 x9_2).length : Int) := of_decide_eq_true (by first | (with_reducible assumption) | assumption)
                        obtain ⟨ad390, e390, hx390_0⟩ := Kd.at_int HR389_0.out x6_1 p390 q390
                        cases e390
                        replace p390 := eq_true p390
                        replace q390 := eq_true q390
                        have p391 : 0 ≤ (x9_2 : Int) := of_decide_eq_true (by first | (with_reducible assumption) | assumption)
                        have q391 : x9_2 < (l0.length : Int) := of_decide_eq_true (by first | (with_reducible assumption) | assumption)
                        obtain ⟨ad391, A391_0, c391_0, e391, hx391_0, hl391_0, hi391_0⟩ := at_L3 HR0.out x9_2 p391 q391
                        obtain rfl : ad387 = ad391 := (by injection e391)
                        have HR391_0 := Aside0.mk hi391_0
                        have HC391_0 := Aside0.mk hl391_0
                        clear hi391_0 hl391_0
                        replace p391 := eq_true p391
                        replace q391 := eq_true q391
                        have ea_ := Option.some.inj (hx387_0.symm.trans hx391_0)
                        injection ea_ with ea_ en_ ec_
                        subst ea_
                        subst ec_
                        clear en_
                        have p392 : 0 ≤ (x6_1 : Int) := of_decide_eq_true (by first | (with_reducible assumption) | assumption)
                        have q392 : x6_1 < ((rd_L3 l0 x9_2).length : Int) := of_decide_eq_true (by first | (with_reducible assumption) | assumption)
                        obtain ⟨ad392, e392, hx392_0⟩ := Kd.at_int HR391_0.out x6_1 p392 q392
                        cases e392
                        replace p392 := eq_true p392
                        replace q392 := eq_true q392
                        go_wp2
                        go_roundg k2
                        case measure => have := HK1.out; have := HK2.out; omega
                        case rel => exact ⟨(rd (rd_L3 l0 x9_2) x6_1), (x8_2), (wrap64 (x9_2 + 1)), (by first | rfl | (simp; done) | (simp [*]; done)), (by first | rfl | (simp; done) | (simp [*]; done)), (by first | rfl | (simp; done) | (simp [*]; done)), H', ⟨by have := HK1.out; have := HK2.out; omega⟩, by repeat (first | exact Drawn0.refl _ | apply Drawn0.step)⟩
                    · rw [if_neg c7] at H
                      have c7b0 : decide ((rd (rd_L3 l0 x9_2) x6_1) < x7_2) = false := decide_eq_false c7
                      clear c7
                      by_cases c9 : (rd (rd_L3 l0 x9_2) x6_1) > x8_2
                      · rw [if_pos c9] at H
                        have c9b0 : decide (x8_2 < (rd (rd_L3 l0 x9_2) x6_1)) = true := decide_eq_true c9
                        clear c9
                        have H' := Aside0.mk H
                        clear H
                        have p387 : 0 ≤ (x9_2 : Int) := of_decide_eq_true (by first | (with_reducible assumption) | assumption)
                        have q387 : x9_2 < (l0.length : Int) := of_decide_eq_true (by first | (with_reducible assumption) | assumption)
                        obtain ⟨ad387, A387_0, c387_0, e387, hx387_0, hl387_0, hi387_0⟩ := at_L3 HR0.out x9_2 p387 q387
                        cases e387
                        have HR387_0 := Aside0.mk hi387_0
                        have HC387_0 := Aside0.mk hl387_0
                        clear hi387_0 hl387_0
                        replace p387 := eq_true p387
                        replace q387 := eq_true q387
                        have p388 : 0 ≤ (x6_1 : Int) := of_decide_eq_true (by first | (with_reducible assumption) | assumption)
                        have q388 : x6_1 < ((rd_L3 l0 x9_2).length : Int) := of_decide_eq_true (by first | (with_reducible assumption) | assumption)
                        obtain ⟨ad388, e388, hx388_0⟩ := Kd.at_int HR387_0.out x6_1 p388 q388
                        cases e388
                        replace p388 := eq_true p388
                        replace q388 := eq_true q388
                        have p395 : 0 ≤ (x9_2 : Int) := of_decide_eq_true (by first | (with_reducible assumption) | assumption)
                        have q395 : x9_2 < (l0.length : Int) := of_decide_eq_true (by first | (with_reducible assumption) | assumption)
                        obtain ⟨ad395, A395_0, c395_0, e395, hx395_0, hl395_0, hi395_0⟩ := at_L3 HR0.out x9_2 p395 q395
                        obtain rfl : ad387 = ad395 := (by injection e395)
                        have HR395_0 := Aside0.mk hi395_0
                        have HC395_0 := Aside0.mk hl395_0
                        clear hi395_0 hl395_0
                        replace p395 := eq_true p395
                        replace q395 := eq_true q395
                        have ea_ := Option.some.inj (hx387_0.symm.trans hx395_0)
                        injection ea_ with ea_ en_ ec_
                        subst ea_
                        subst ec_
                        clear en_
                        have p396 : 0 ≤ (x6_1 : Int) := of_decide_eq_true (by first | (with_reducible assumption) | assumption)
                        have q396 : x6_1 < ((rd_L3 l0 x9_2).length : Int) := of_decide_eq_true (by first | (with_reducible assumption) | assumption)
                        obtain ⟨ad396, e396, hx396_0⟩ := Kd.at_int HR395_0.out x6_1 p396 q396
                        cases e396
                        replace p396 := eq_true p396
                        replace q396 := eq_true q396
                        have p397 : 0 ≤ (x9_2 : Int) := of_decide_eq_true (by first | (with_reducible assumption) | assumption)
                        have q397 : x9_2 < (l0.length : Int) := of_decide_eq_true (by first | (with_reducible assumption) | assumption)
                        obtain ⟨ad397, A397_0, c397_0, e397, hx397_0, hl397_0, hi397_0⟩ := at_L3 HR0.out x9_2 p397 q397
                        obtain rfl : ad387 = ad397 := (by injection e397)
                        have HR397_0 := Aside0.mk hi397_0
                        have HC397_0 := Aside0.mk hl397_0
                        clear hi397_0 hl397_0
                        replace p397 := eq_true p397
                        replace q397 := eq_true q397
                        have ea_ := Option.some.inj (hx387_0.symm.trans hx397_0)
                        injection ea_ with ea_ en_ ec_
                        subst ea_
                        subst ec_
                        clear en_
                        have p398 : 0 ≤ (x6_1 : Int) := of_decide_eq_true (by first | (with_reducible assumption) | assumption)
                        have q398 : x6_1 < ((rd_L3 l0 x9_2).length : Int) := of_decide_eq_true (by first | (with_reducible assumption) | assumption)
                        obtain ⟨ad398, e398, hx398_0⟩ := Kd.at_int HR397_0.out x6_1 p398 q398
                        cases e398
                        replace p398 := eq_true p398
                        replace q398 := eq_true q398
                        go_wp2
                        go_roundg k2
                        case measure => have := HK1.out; have := HK2.out; omega
                        case rel => exact ⟨(x7_2), (rd (rd_L3 l0 x9_2) x6_1), (wrap64 (x9_2 + 1)), (by first | rfl | (simp; done) | (simp [*]; done)), (by first | rfl | (simp; done) | (simp [*]; done)), (by first | rfl | (simp; done) | (simp [*]; done)), H', ⟨by have := HK1.out; have := HK2.out; omega⟩, by repeat (first | exact Drawn0.refl _ | apply Drawn0.step)⟩
                      · rw [if_neg c9] at H
                        have c9b0 : decide (x8_2 < (rd (rd_L3 l0 x9_2) x6_1)) = false := decide_eq_false c9
                        clear c9
                        have H' := Aside0.mk H
                        clear H
                        have p387 : 0 ≤ (x9_2 : Int) := of_decide_eq_true (by first | (with_reducible assumption) | assumption)
                        have q387 : x9_2 < (l0.length : Int) := of_decide_eq_true (by first | (with_reducible assumption) | assumption)
                        obtain ⟨ad387, A387_0, c387_0, e387, hx387_0, hl387_0, hi387_0⟩ := at_L3 HR0.out x9_2 p387 q387
                        cases e387
                        have HR387_0 := Aside0.mk hi387_0
                        have HC387_0 := Aside0.mk hl387_0
                        clear hi387_0 hl387_0
                        replace p387 := eq_true p387
                        replace q387 := eq_true q387
                        have p388 : 0 ≤ (x6_1 : Int) := of_decide_eq_true (by first | (with_reducible assumption) | assumption)
                        have q388 : x6_1 < ((rd_L3 l0 x9_2).length : Int) := of_decide_eq_true (by first | (with_reducible assumption) | assumption)
                        obtain ⟨ad388, e388, hx388_0⟩ := Kd.at_int HR387_0.out x6_1 p388 q388
                        cases e388
                        replace p388 := eq_true p388
                        replace q388 := eq_true q388
                        have p395 : 0 ≤ (x9_2 : Int) := of_decide_eq_true (by first | (with_reducible assumption) | assumption)
                        have q395 : x9_2 < (l0.length : Int) := of_decide_eq_true (by first | (with_reducible assumption) | assumption)
                        obtain ⟨ad395, A395_0, c395_0, e395, hx395_0, hl395_0, hi395_0⟩ := at_L3 HR0.out x9_2 p395 q395
                        obtain rfl : ad387 = ad395 := (by injection e395)
                        have HR395_0 := Aside0.mk hi395_0
                        have HC395_0 := Aside0.mk hl395_0
                        clear hi395_0 hl395_0
                        replace p395 := eq_true p395
                        replace q395 := eq_true q395
                        have ea_ := Option.some.inj (hx387_0.symm.trans hx395_0)
                        injection ea_ with ea_ en_ ec_
                        subst ea_
                        subst ec_
                        clear en_
                        have p396 : 0 ≤ (x6_1 : Int) := of_decide_eq_true (by first | (with_reducible assumption) | assumption)
                        have q396 : x6_1 < ((rd_L3 l0 x9_2).length : Int) := of_decide_eq_true (by first | (with_reducible assumption) | assumption)
                        obtain ⟨ad396, e396, hx396_0⟩ := Kd.at_int HR395_0.out x6_1 p396 q396
                        cases e396
                        replace p396 := eq_true p396
                        replace q396 := eq_true q396
                        go_wp2
                        go_roundg k2
                        case measure => have := HK1.out; have := HK2.out; omega
                        case rel => exact ⟨(x7_2), (x8_2), (wrap64 (x9_2 + 1)), (by first | rfl | (simp; done) | (simp [*]; done)), (by first | rfl | (simp; done) | (simp [*]; done)), (by first | rfl | (simp; done) | (simp [*]; done)), H', ⟨by have := HK1.out; have := HK2.out; omega⟩, by repeat (first | exact Drawn0.refl _ | apply Drawn0.step)⟩
                  · rw [if_neg c6] at H
                    exact absurd H (by simp)
                · rw [if_neg c5] at H
                  exact absurd H (by simp)
              · rw [if_neg c4] at H
                exact absurd H (by simp)
            · rw [if_neg c3] at H
              have c3b0 : decide (x9_2 < (l0.length : Int)) = false := decide_eq_false c3
              clear c3
              by_cases c10 : (wrap64 (x8_2 - x7_2)) > x4_1
              · rw [if_pos c10] at H
                have c10b0 : decide (x4_1 < (wrap64 (x8_2 - x7_2))) = true := decide_eq_true c10
                clear c10
                have H' := Aside0.mk H
                clear H
                go_wp2
                go_roundg k2
                case measure => have := HK1.out; have := HK2.out; omega
                case rel => exact ⟨(wrap64 (x8_2 - x7_2)), (x6_1), (wrap64 (x6_1 + 1)), (by first | rfl | (simp; done) | (simp [*]; done)), (by first | rfl | (simp; done) | (simp [*]; done)), (by first | rfl | (simp; done) | (simp [*]; done)), H', ⟨by have := HK1.out; have := HK2.out; omega⟩, by repeat (first | exact Drawn0.refl _ | apply Drawn0.step)⟩
              · rw [if_neg c10] at H
                have c10b0 : decide (x4_1 < (wrap64 (x8_2 - x7_2))) = false := decide_eq_false c10
                clear c10
                have H' := Aside0.mk H
                clear H
                go_wp2
                go_roundg k2
                case measure => have := HK1.out; have := HK2.out; omega
                case rel => exact ⟨(x4_1), (x5_1), (wrap64 (x6_1 + 1)), (by first | rfl | (simp; done) | (simp [*]; done)), (by first | rfl | (simp; done) | (simp [*]; done)), (by first | rfl | (simp; done) | (simp [*]; done)), H', ⟨by have := HK1.out; have := HK2.out; omega⟩, by repeat (first | exact Drawn0.refl _ | apply Drawn0.step)⟩
      · rw [if_neg c2] at H
        have c2b0 : decide (x6_1 < 3) = false := decide_eq_false c2
        clear c2
        simp only [Option.some.injEq, Prod.mk.injEq] at H
        obtain ⟨rfl, rfl⟩ := H
        go_wp2
        go_ret2
        exact ⟨by first | rfl | (simp; done) | (simp [*]; done), by repeat (first | exact Drawn0.refl _ | apply Drawn0.step)⟩
theorem spec_l21Wide.ev (box : List (List Int)) (hp : ∀ px ∈ box, isPx px = true) (hl : box.length ≤ 1048576) : Ev (fun k => spec_l21Wide.f k box) (wideM box) := by
  unfold spec_l21Wide.f
  have inner : ∀ (j : Nat) (s : Int × Int) (R : Int × Int), j ≤ 2 → Ev (fun k => spec_l21Wide.l0 k box (wideStep box j s).1 (wideStep box j s).2 ((j + 1 : Nat) : Int)) R →
      ∀ d i : Nat, ∀ lo hi : Int, box.length - i = d → i ≤ box.length → lowJ j (box.drop i) lo = lowJ j box 255 → highJ j (box.drop i) hi = highJ j box 0 → Ev (fun k => spec_l21Wide.l1 k box s.1 s.2 (j : Int) lo hi (i : Int)) R := by
    intro j s R hj hn d
    have a1 := lowJ_in j (by omega) (by omega) box hp 255 (by omega) (by omega)
    have a2 := highJ_in j (by omega) (by omega) box hp 0 (by omega) (by omega)
    induction d with
    | zero =>
      intro i lo hi hd hi' h1 h2
      rw [List.drop_of_length_le (by omega)] at h1 h2
      simp only [lowJ, highJ] at h1 h2
      refine Ev.step (fun _ => by rw [spec_l21Wide.l1]) (Ev.ng (by omega) ?_)
      rw [h1, h2, wrap_in _ (by omega) (by omega), wrap_succ j (by omega)]
      unfold wideStep at hn
      by_cases hc : diffJ box j > s.1
      · rw [if_pos hc] at hn; exact Ev.ip hc hn
      · rw [if_neg hc] at hn; exact Ev.ng hc hn
    | succ d ih =>
      intro i lo hi hd hi' h1 h2
      have hlt : i < box.length := by omega
      have hx := px_rd (hp _ (List.getElem_mem hlt)) j (by omega) (by omega)
      rw [List.drop_eq_getElem_cons hlt] at h1 h2
      simp only [lowJ, highJ] at h1 h2
      have e : rd_L3 box (i : Int) = box[i] := by simp [rd_L3, hlt]
      refine Ev.step (fun _ => by rw [spec_l21Wide.l1]) (Ev.ip (by omega) (Ev.ip (by omega) (Ev.ip (by omega) ?_)))
      rw [e, wrap_succ i (by omega)]
      refine Ev.ip (by omega) ?_
      by_cases c1 : rd box[i] (j : Int) < lo
      · rw [if_pos c1] at h1
        by_cases c2 : rd box[i] (j : Int) > hi
        · rw [if_pos c2] at h2
          exact Ev.ip c1 (Ev.ip c2 (ih (i + 1) _ _ (by omega) (by omega) h1 h2))
        · rw [if_neg c2] at h2
          exact Ev.ip c1 (Ev.ng c2 (ih (i + 1) _ _ (by omega) (by omega) h1 h2))
      · rw [if_neg c1] at h1
        by_cases c2 : rd box[i] (j : Int) > hi
        · rw [if_pos c2] at h2
          exact Ev.ng c1 (Ev.ip c2 (ih (i + 1) _ _ (by omega) (by omega) h1 h2))
        · rw [if_neg c2] at h2
          exact Ev.ng c1 (Ev.ng c2 (ih (i + 1) _ _ (by omega) (by omega) h1 h2))
  have outer : ∀ (j : Nat) (s : Int × Int) (R : Int × Int), j ≤ 2 → Ev (fun k => spec_l21Wide.l0 k box (wideStep box j s).1 (wideStep box j s).2 ((j + 1 : Nat) : Int)) R → Ev (fun k => spec_l21Wide.l0 k box s.1 s.2 (j : Int)) R :=
    by
      intro j s R hj hn
      refine Ev.step (fun _ => by rw [spec_l21Wide.l0]) (Ev.ip (by omega) ?_)
      have h := inner j s R hj hn _ 0 255 0 rfl (by omega) (by simp) (by simp)
      exact h
  have last : Ev (fun k => spec_l21Wide.l0 k box (wideM box).1 (wideM box).2 ((2 + 1 : Nat) : Int)) (wideM box) := by
    refine Ev.step (fun _ => by rw [spec_l21Wide.l0]) ?_
    refine Ev.ng (by decide) ?_
    exact Ev.now _
  have := outer 0 (0, 0) _ (by omega) (outer 1 _ _ (by omega) (outer 2 _ _ (by omega) last))
  exact this
end Go.Proofs.Ytcjjmfpkhhdmlaa.G

namespace Go.Proofs.Ytcjjmfpkhhdmlaa.G
open Go.RowKit Go.Proofs.YtcjjmfpkhhdmlaaW.PrintWords Go.Proofs.YtcjjmfpkhhdmlaaW.PrintLast Go.Proofs.YtcjjmfpkhhdmlaaW.PrintMore
attribute [local go_sem] max2_int min2_int max_two min_two max_three min_three max_four min_four   -- for this text's walks alone
/-! ### spec_l21Sort: function 124 -/
mutual
def spec_l21Sort.l0 : Nat → List (List Int) → Int → List (List Int) → Int → Option ((List (List Int)))
  | 0, _, _, _, _ => none
  | k + 1, x0, x1, x5, x6 => if x6 < 256 then (spec_l21Sort.l1 k x0 x1 x5 x6 0) else (some x5)
def spec_l21Sort.l1 : Nat → List (List Int) → Int → List (List Int) → Int → Int → Option ((List (List Int)))
  | 0, _, _, _, _, _ => none
  | k + 1, x0, x1, x5, x6, x7 => if x7 < (x0.length : Int) then (if 0 ≤ x7 then (if 0 ≤ x1 then (if x1 < ((rd_L3 x0 x7).length : Int) then (if (rd (rd_L3 x0 x7) x1) = x6 then (if x5.length < 5864062014805 then (spec_l21Sort.l1 k x0 x1 (x5 ++ [rd_L3 x0 x7]) x6 (wrap64 (x7 + 1))) else (none)) else (spec_l21Sort.l1 k x0 x1 x5 x6 (wrap64 (x7 + 1)))) else (none)) else (none)) else (none)) else (spec_l21Sort.l0 k x0 x1 x5 (wrap64 (x6 + 1)))
end
def spec_l21Sort.f (k : Nat) (l0 : List (List Int)) (a1 : Int) : Option ((List (List Int))) := spec_l21Sort.l0 k l0 a1 (([] : List (List Int))) 0
theorem spec_l21Sort.mono_l : ∀ k, (∀ y0 y1 y2 y3, LeO (spec_l21Sort.l0 k y0 y1 y2 y3) (spec_l21Sort.l0 (k + 1) y0 y1 y2 y3)) ∧ (∀ y0 y1 y2 y3 y4, LeO (spec_l21Sort.l1 k y0 y1 y2 y3 y4) (spec_l21Sort.l1 (k + 1) y0 y1 y2 y3 y4))
  | 0 => ⟨fun _ _ _ _ r h => by simp [spec_l21Sort.l0] at h, fun _ _ _ _ _ r h => by simp [spec_l21Sort.l1] at h⟩
  | k + 1 => by
    obtain ⟨ih0, ih1⟩ := spec_l21Sort.mono_l k
    refine ⟨?_, ?_⟩
    · intro y0 y1 y2 y3
      unfold spec_l21Sort.l0
      repeat' first
      | (with_reducible exact ih0 _ _ _ _)
      | (with_reducible exact ih1 _ _ _ _ _)
      | (with_reducible exact LeO.refl _)
      | (with_reducible exact LeO.none _)
      | (with_reducible refine LeO.ite ?_ ?_)
      | (with_reducible refine LeO.bind ?_ (fun _ => ?_))
      | exact ih0 _ _ _ _
      | exact ih1 _ _ _ _ _
      | exact LeO.none _
      | refine LeO.ite ?_ ?_
      | refine LeO.bind ?_ (fun _ => ?_)
    · intro y0 y1 y2 y3 y4
      unfold spec_l21Sort.l1
      repeat' first
      | (with_reducible exact ih0 _ _ _ _)
      | (with_reducible exact ih1 _ _ _ _ _)
      | (with_reducible exact LeO.refl _)
      | (with_reducible exact LeO.none _)
      | (with_reducible refine LeO.ite ?_ ?_)
      | (with_reducible refine LeO.bind ?_ (fun _ => ?_))
      | exact ih0 _ _ _ _
      | exact ih1 _ _ _ _ _
      | exact LeO.none _
      | refine LeO.ite ?_ ?_
      | refine LeO.bind ?_ (fun _ => ?_)
theorem spec_l21Sort.mono : ∀ a0 a1 k, LeO (spec_l21Sort.f k a0 a1) (spec_l21Sort.f (k + 1) a0 a1) := by
  intro a0 a1 k
  obtain ⟨ih0, ih1⟩ := spec_l21Sort.mono_l k
  unfold spec_l21Sort.f
  repeat' first
      | (with_reducible exact ih0 _ _ _ _)
      | (with_reducible exact ih1 _ _ _ _ _)
      | (with_reducible exact LeO.refl _)
      | (with_reducible exact LeO.none _)
      | (with_reducible refine LeO.ite ?_ ?_)
      | (with_reducible refine LeO.bind ?_ (fun _ => ?_))
      | exact ih0 _ _ _ _
      | exact ih1 _ _ _ _ _
      | exact LeO.none _
      | refine LeO.ite ?_ ?_
      | refine LeO.bind ?_ (fun _ => ?_)
set_option maxHeartbeats 8000000 in
set_option maxRecDepth 100000 in
theorem spec_l21Sort.calls (k : Nat) (P0_ : Nat → Prop) (A0 : Option Addr) (c0 : Nat) (l0 : List (List Int)) (a1 : Int) (r : List (List Int)) (w : World) (hs0 : Kd.V (Kd.slice 3 (Kd.int .i64)) 22 w w.heap.size (fun k_ => P0_ k_) (.slice A0 l0.length c0) l0) (h : spec_l21Sort.f k l0 a1 = some r) :
    Calls Try.prog 124 #[.slice A0 l0.length c0, .int .i64 a1] w fun e w' => ∃ v0_ : Value, e = .returned (v0_) ∧ Kd.N (Kd.slice 3 (Kd.int .i64)) 22 w' w.heap.size (fun k_ => (P0_ k_ ∨ w.heap.size ≤ k_)) v0_ r ∧ Below w.heap.size w w' := by
  have HO0 := Aside0.mk (show Kd.V (Kd.slice 3 (Kd.int .i64)) 22 w w.heap.size (fun k_ => (P0_ k_ ∨ w.heap.size ≤ k_)) (.slice A0 l0.length c0) l0 from Kd.V_mono hs0 (fun k_ hk => .inl hk))
  have HB := Aside0.mk (Below.refl w.heap.size w)
  have H : (spec_l21Sort.l0 k l0 a1 (([] : List (List Int))) 0) = some r := h
  clear h
  obtain ⟨y399, hy399⟩ : ∃ y_ : List (List Int), y_ = (([] : List (List Int))) := ⟨_, rfl⟩
  replace H : (spec_l21Sort.l0 k l0 a1 y399 0) = some r := by first | (rw [hy399]; with_reducible exact H) | (have H2_ := (Option.bind_some _ _).symm.trans H; rw [hy399]; with_reducible exact H2_) | (have H2_ := (Option.bind_some _ _).symm.trans H; with_reducible exact H2_) | with_reducible exact H | (rw [hy399]; exact H) | exact H
  have Ny399 := Aside0.mk hy399
  clear hy399
  have H' := Aside0.mk H
  clear H
  go_enter Try.func124, Try.ntmps124
  go_wp2_with (first | ((with_reducible refine gate_dst (N := 8) rfl ?_); refine Kd.N_lit (Kd.slice 3 (Kd.int .i64)) _ 22 ?hg (N' := 8) ?hd (xs := ([] : List (List Int))) (inner := []) (ok := (fun k_ => (P0_ k_ ∨ w.heap.size ≤ k_))) (okp := (fun k_ => (P0_ k_ ∨ w.heap.size ≤ k_))) ?hr ?hp (fun _ hk => hk) ((show ∀ k_, w.heap.size ≤ k_ → (fun k_ => (P0_ k_ ∨ w.heap.size ≤ k_)) k_ from fun k_ hk => (.inr (Nat.le_trans (below_size (by repeat (first | (with_reducible first | exact HB.out | apply below_alloc | apply pw_below_drewN | apply below_drew1) | exact HB.out))) hk))) _ (Nat.le_refl _)) (Below.refl _ _) (Nat.le_refl _) (by simp) ?_; (case hd => rfl); (case hg => rfl); (case hr => first | (go_simp; done) | (go_simp; rfl)); (case hp => exact (Reps.none _ _)); intro v400 w3 ho4 hb hg_ hnew_; clear hg_ hnew_; (first | rw [← Ny399.out] at ho4 | (simp only [Int.reduceToNat] at ho4; rw [← Ny399.out] at ho4)); have n0_ := Aside0.mk (Kd.V_elder' (by (with_reducible repeat (first | apply Kd.V_alloc | apply Kd.V_drewN | apply Kd.V_drew)); exact HO0.out) (Kd.N_base ho4) hb); have n1_ := Aside0.mk (Kd.N_lower ho4 (below_size (by repeat (first | (with_reducible first | exact HB.out | apply below_alloc | apply pw_below_drewN | apply below_drew1) | exact HB.out)))); have n2_ := Aside0.mk (below_step (by repeat (first | (with_reducible first | exact HB.out | apply below_alloc | apply pw_below_drewN | apply below_drew1) | exact HB.out)) hb); clear HO0; clear HB; have HO0 := n0_; have HO401 := n1_; have HB := n2_; clear n0_ n1_ n2_; clear hb ho4))
  go_loopg [5, 6] k (fun kq v5 v6 w' => ∃ (x5_1 : List (List Int)) (x6_1 : Int), v6 = .int .i64 x6_1 ∧ Aside0 (spec_l21Sort.l0 kq l0 a1 x5_1 x6_1 = some r) ∧ Aside0 (kq ≤ k) ∧ Aside0 (Kd.V (Kd.slice 3 (Kd.int .i64)) 22 w' w.heap.size (fun k_ => (P0_ k_ ∨ w.heap.size ≤ k_) ∧ some k_ ≠ (v5 : Value).ownBlock) (.slice A0 l0.length c0) l0) ∧ Aside0 (Kd.N (Kd.slice 3 (Kd.int .i64)) 22 w' w.heap.size (fun k_ => (P0_ k_ ∨ w.heap.size ≤ k_)) v5 x5_1) ∧ Aside0 (Below w.heap.size w w'))
  case atStart => exact ⟨(y399), (0), (by first | rfl | (simp; done) | (simp [*]; done)), H', ⟨Nat.le_refl _⟩, ⟨by (with_reducible repeat (first | apply Kd.V_alloc | apply Kd.V_drewN | apply Kd.V_drew)); exact HO0.out⟩, ⟨by (with_reducible repeat (first | apply Kd.N_alloc | apply Kd.N_drewN | apply Kd.N_drew)); exact HO401.out⟩, ⟨by repeat (first | (with_reducible first | exact HB.out | apply below_alloc | apply pw_below_drewN | apply below_drew1) | exact HB.out)⟩⟩
  case round =>
    clear H'
    try clear c1
    try clear p2
    obtain ⟨x5_1, x6_1, rfl, HA, HK1, HO_0, HO_5, HB⟩ := hrel
    cases gk with
    | zero => exact absurd HA.out (by simp [spec_l21Sort.l0])
    | succ k1 =>
      have H := HA.out
      clear HA
      simp only [spec_l21Sort.l0] at H
      by_cases c5 : x6_1 < 256
      · rw [if_pos c5] at H
        have c5b0 : decide (x6_1 < 256) = true := decide_eq_true c5
        clear c5
        have H' := Aside0.mk H
        clear H
        go_wp2
        go_loopg [5, 7] k1 (fun kq v5 v7 w' => ∃ (x5_2 : List (List Int)) (x7_2 : Int), v7 = .int .i64 x7_2 ∧ Aside0 (spec_l21Sort.l1 kq l0 a1 x5_2 x6_1 x7_2 = some r) ∧ Aside0 (kq ≤ k1) ∧ Aside0 (Kd.V (Kd.slice 3 (Kd.int .i64)) 22 w' w.heap.size (fun k_ => (P0_ k_ ∨ w.heap.size ≤ k_) ∧ some k_ ≠ (v5 : Value).ownBlock) (.slice A0 l0.length c0) l0) ∧ Aside0 (Kd.N (Kd.slice 3 (Kd.int .i64)) 22 w' w.heap.size (fun k_ => (P0_ k_ ∨ w.heap.size ≤ k_)) v5 x5_2) ∧ Aside0 (Below w.heap.size w w'))
        case atStart => exact ⟨(x5_1), (0), (by first | rfl | (simp; done) | (simp [*]; done)), H', ⟨Nat.le_refl _⟩, ⟨by (with_reducible repeat (first | apply Kd.V_alloc | apply Kd.V_drewN | apply Kd.V_drew)); exact HO_0.out⟩, ⟨by (with_reducible repeat (first | apply Kd.N_alloc | apply Kd.N_drewN | apply Kd.N_drew)); exact HO_5.out⟩, ⟨by repeat (first | (with_reducible first | exact HB.out | apply below_alloc | apply pw_below_drewN | apply below_drew1) | exact HB.out)⟩⟩
        case round =>
          clear H'
          try clear c1
          try clear p2
          try clear c5
          try clear c5b0
          try clear p2
          obtain ⟨x5_2, x7_2, rfl, HA, HK2, HO_0, HO_5, HB⟩ := hrel
          cases gk with
          | zero => exact absurd HA.out (by simp [spec_l21Sort.l1])
          | succ k2 =>
            have H := HA.out
            clear HA
            simp only [spec_l21Sort.l1] at H
            by_cases c6 : x7_2 < (l0.length : Int)
            · rw [if_pos c6] at H
              have c6b0 : decide (x7_2 < (l0.length : Int)) = true := decide_eq_true c6
              clear c6
              by_cases c7 : 0 ≤ x7_2
              · rw [if_pos c7] at H
                have c7b0 : decide (0 ≤ x7_2) = true := decide_eq_true c7
                clear c7
                by_cases c8 : 0 ≤ a1
                · rw [if_pos c8] at H
                  have c8b0 : decide (0 ≤ a1) = true := decide_eq_true c8
                  clear c8
                  by_cases c9 : a1 < ((rd_L3 l0 x7_2).length : Int)
                  · rw [if_pos c9] at H
                    have c9b0 : decide (a1 < ((rd_L3 l0 x7_2).length : Int)) = true := decide_eq_true c9
                    clear c9
                    by_cases c10 : (rd (rd_L3 l0 x7_2) a1) = x6_1
                    · rw [if_pos c10] at H
                      have c10b0 : ((rd (rd_L3 l0 x7_2) a1) == x6_1) = true := beq_iff_eq.mpr c10
                      have c10b1 : ((rd (rd_L3 l0 x7_2) a1) != x6_1) = false := bne_eq_false_iff_eq.mpr c10
                      clear c10
                      by_cases c11 : x5_2.length < 5864062014805
                      · rw [if_pos c11] at H
                        have LMc11 := Aside0.mk c11
                        clear c11
                        obtain ⟨y405, hy405⟩ : ∃ y_ : List (List Int), y_ = (x5_2 ++ [rd_L3 l0 x7_2]) := ⟨_, rfl⟩
                        replace H : (spec_l21Sort.l1 k2 l0 a1 y405 x6_1 (wrap64 (x7_2 + 1))) = some r := by first | (rw [hy405]; with_reducible exact H) | (have H2_ := (Option.bind_some _ _).symm.trans H; rw [hy405]; with_reducible exact H2_) | (have H2_ := (Option.bind_some _ _).symm.trans H; with_reducible exact H2_) | with_reducible exact H | (rw [hy405]; exact H) | exact H
                        have Ny405 := Aside0.mk hy405
                        clear hy405
                        have H' := Aside0.mk H
                        clear H
                        have p402 : 0 ≤ (x7_2 : Int) := of_decide_eq_true (by first | (with_reducible assumption) | assumption)
                        have q402 : x7_2 < (l0.length : Int) := of_decide_eq_true (by first | (with_reducible assumption) | assumption)
                        obtain ⟨ad402, A402_0, c402_0, e402, hx402_0, hl402_0, hi402_0⟩ := at_L3 (Kd.V_reads' HO_0.out).2.2 x7_2 p402 q402
                        cases e402
                        obtain ⟨ce402, hce402, hMe402, hcc402⟩ := Kd.V_get HO_0.out [] x7_2 p402 (by first | exact q402 | exact of_decide_eq_true (by first | (with_reducible assumption) | assumption) | (have e_ := (Kd.V_reads' HO_0.out).1; omega))
                        obtain ⟨ua402_0, uc402_0, rfl, ul402_0, ge402_0⟩ := Kd.FK_slice_open hMe402
                        have hv402_0 := hcc402 0 _ rfl
                        rw [Nat.add_zero, show ((Kd.slice 3 (Kd.int .i64))).sz = 1 from rfl, Nat.mul_one] at hv402_0
                        replace hv402_0 := Option.some.inj (hv402_0.symm.trans hx402_0)
                        injection hv402_0 with hva_ hvn_ hvc_
                        rw [hva_] at ge402_0
                        rw [hvc_] at ul402_0
                        have HL402_0 := Aside0.mk (show Kd.V (Kd.int .i64) 3 _ w.heap.size _ _ (rd_L3 l0 x7_2) from Kd.V_mk ul402_0 ge402_0)
                        clear hva_ hvn_ hvc_ ge402_0 ul402_0
                        clear hcc402 hce402
                        have HR402_0 := Aside0.mk hi402_0
                        have HC402_0 := Aside0.mk hl402_0
                        clear hi402_0 hl402_0
                        replace p402 := eq_true p402
                        replace q402 := eq_true q402
                        have p403 : 0 ≤ (a1 : Int) := of_decide_eq_true (by first | (with_reducible assumption) | assumption)
                        have q403 : a1 < ((rd_L3 l0 x7_2).length : Int) := of_decide_eq_true (by first | (with_reducible assumption) | assumption)
                        obtain ⟨ad403, e403, hx403_0⟩ := Kd.at_int (by repeat (first | (with_reducible exact HR402_0.out) | (with_reducible refine Kd.C_alloc ?_ _) | (with_reducible refine Kd.C_drewN ?_ _) | (with_reducible refine Kd.C_drew ?_) | exact HR402_0.out)) a1 p403 q403
                        cases e403
                        replace p403 := eq_true p403
                        replace q403 := eq_true q403
                        have p404 : 0 ≤ (x7_2 : Int) := of_decide_eq_true (by first | (with_reducible assumption) | assumption)
                        have q404 : x7_2 < (l0.length : Int) := of_decide_eq_true (by first | (with_reducible assumption) | assumption)
                        obtain ⟨ad404, A404_0, c404_0, e404, hx404_0, hl404_0, hi404_0⟩ := at_L3 (Kd.V_reads' HO_0.out).2.2 x7_2 p404 q404
                        obtain rfl : ad402 = ad404 := (by injection e404)
                        obtain ⟨ce404, hce404, hMe404, hcc404⟩ := Kd.V_get HO_0.out [] x7_2 p404 (by first | exact q404 | exact of_decide_eq_true (by first | (with_reducible assumption) | assumption) | (have e_ := (Kd.V_reads' HO_0.out).1; omega))
                        obtain ⟨ua404_0, uc404_0, rfl, ul404_0, ge404_0⟩ := Kd.FK_slice_open hMe404
                        have hv404_0 := hcc404 0 _ rfl
                        rw [Nat.add_zero, show ((Kd.slice 3 (Kd.int .i64))).sz = 1 from rfl, Nat.mul_one] at hv404_0
                        replace hv404_0 := Option.some.inj (hv404_0.symm.trans hx404_0)
                        injection hv404_0 with hva_ hvn_ hvc_
                        rw [hva_] at ge404_0
                        rw [hvc_] at ul404_0
                        have HL404_0 := Aside0.mk (show Kd.V (Kd.int .i64) 3 _ w.heap.size _ _ (rd_L3 l0 x7_2) from Kd.V_mk ul404_0 ge404_0)
                        clear hva_ hvn_ hvc_ ge404_0 ul404_0
                        clear hcc404 hce404
                        have HR404_0 := Aside0.mk hi404_0
                        have HC404_0 := Aside0.mk hl404_0
                        clear hi404_0 hl404_0
                        replace p404 := eq_true p404
                        replace q404 := eq_true q404
                        have ea_ := Option.some.inj (hx402_0.symm.trans hx404_0)
                        injection ea_ with ea_ en_ ec_
                        subst ea_
                        subst ec_
                        clear en_
                        go_wp2_with (first | ((with_reducible refine gate_builtin (b := .append) (xs := #[.tmp 28, .tmp 33]) rfl ?_); at_builtin; refine Kd.N_append (Kd.slice 3 (Kd.int .i64)) (w0 := w) w.heap.size rfl (.tmp 28) (.tmp 33) 36 22 (.slice none 0 0) 24 rfl Try.underlying36 info22 rfl (by decide) (by omega) u5 x5_2 (rd_L3 l0 x7_2) [.slice (some ad403) (rd_L3 l0 x7_2).length c402_0] (fun k_ => (P0_ k_ ∨ w.heap.size ≤ k_)) (fun k_ => ((fun k_ => (P0_ k_ ∨ w.heap.size ≤ k_))) k_ ∧ some k_ ≠ (u5 : Value).ownBlock) rfl rfl ?aP (fun _ hk => hk) ?aF ?aO ?aB ?aS ?aL ?_; (case aP => exact (Kd.FK_slice_mk (Kd.V_reads' (Kd.V_mono (ok' := (fun k_ => ((fun k_ => (P0_ k_ ∨ w.heap.size ≤ k_))) k_ ∧ some k_ ≠ (u5 : Value).ownBlock)) (HL404_0.out) (fun k_ hk => ⟨hk.1, hk.2⟩))).2.1 (Kd.V_F (Kd.V_mono (ok' := (fun k_ => ((fun k_ => (P0_ k_ ∨ w.heap.size ≤ k_))) k_ ∧ some k_ ≠ (u5 : Value).ownBlock)) (HL404_0.out) (fun k_ hk => ⟨hk.1, hk.2⟩))))); (case aB => exact (by repeat (first | (with_reducible first | exact HB.out | apply below_alloc | apply pw_below_drewN | apply below_drew1) | exact HB.out))); (case aF => exact (fun k_ hk => (.inr (Nat.le_trans (below_size (by repeat (first | (with_reducible first | exact HB.out | apply below_alloc | apply pw_below_drewN | apply below_drew1) | exact HB.out))) hk)))); (case aO => exact (by (with_reducible repeat (first | apply Kd.N_alloc | apply Kd.N_drewN | apply Kd.N_drew)); exact HO_5.out)); (case aS => exact (below_size (by repeat (first | (with_reducible first | exact HB.out | apply below_alloc | apply pw_below_drewN | apply below_drew1) | exact HB.out)))); (case aL => have := LMc11.out; omega); intro v406 w12 ho hb hg hat; rw [← Ny405.out] at ho; have n0_ := Aside0.mk (Kd.V_afterv (ok := (fun k_ => (P0_ k_ ∨ w.heap.size ≤ k_))) (by (with_reducible repeat (first | apply Kd.V_alloc | apply Kd.V_drewN | apply Kd.V_drew)); exact HO_0.out) hg hat); have n1_ := Aside0.mk (Kd.V_afterv (ok := (fun k_ => (P0_ k_ ∨ w.heap.size ≤ k_))) (by (with_reducible repeat (first | apply Kd.V_alloc | apply Kd.V_drewN | apply Kd.V_drew)); exact HL402_0.out) hg hat); have n2_ := Aside0.mk (Kd.V_afterv (ok := (fun k_ => (P0_ k_ ∨ w.heap.size ≤ k_))) (by (with_reducible repeat (first | apply Kd.V_alloc | apply Kd.V_drewN | apply Kd.V_drew)); exact HL404_0.out) hg hat); have n3_ := Aside0.mk (hb); have n4_ := Aside0.mk (ho); clear HO_0; clear HL402_0; clear HL404_0; clear HB; clear HO_5; have HO_0 := n0_; have HL402_0 := n1_; have HL404_0 := n2_; have HB := n3_; have HO407 := n4_; clear n0_ n1_ n2_ n3_ n4_; clear ho hb hg hat))
                        go_roundg k2
                        case measure => have := HK1.out; have := HK2.out; omega
                        case rel => exact ⟨(y405), (wrap64 (x7_2 + 1)), (by first | rfl | (simp; done) | (simp [*]; done)), H', ⟨by have := HK1.out; have := HK2.out; omega⟩, ⟨by (with_reducible repeat (first | apply Kd.V_alloc | apply Kd.V_drewN | apply Kd.V_drew)); exact HO_0.out⟩, ⟨by (with_reducible repeat (first | apply Kd.N_alloc | apply Kd.N_drewN | apply Kd.N_drew)); exact HO407.out⟩, ⟨by repeat (first | (with_reducible first | exact HB.out | apply below_alloc | apply pw_below_drewN | apply below_drew1) | exact HB.out)⟩⟩
                      · rw [if_neg c11] at H
                        exact absurd H (by simp)
                    · rw [if_neg c10] at H
                      have c10b0 : ((rd (rd_L3 l0 x7_2) a1) == x6_1) = false := beq_eq_false_iff_ne.mpr c10
                      have c10b1 : ((rd (rd_L3 l0 x7_2) a1) != x6_1) = true := bne_iff_ne.mpr c10
                      have H' := Aside0.mk H
                      clear H
                      have p402 : 0 ≤ (x7_2 : Int) := of_decide_eq_true (by first | (with_reducible assumption) | assumption)
                      have q402 : x7_2 < (l0.length : Int) := of_decide_eq_true (by first | (with_reducible assumption) | assumption)
                      obtain ⟨ad402, A402_0, c402_0, e402, hx402_0, hl402_0, hi402_0⟩ := at_L3 (Kd.V_reads' HO_0.out).2.2 x7_2 p402 q402
                      cases e402
                      obtain ⟨ce402, hce402, hMe402, hcc402⟩ := Kd.V_get HO_0.out [] x7_2 p402 (by first | exact q402 | exact of_decide_eq_true (by first | (with_reducible assumption) | assumption) | (have e_ := (Kd.V_reads' HO_0.out).1; omega))
                      obtain ⟨ua402_0, uc402_0, rfl, ul402_0, ge402_0⟩ := Kd.FK_slice_open hMe402
                      have hv402_0 := hcc402 0 _ rfl
                      rw [Nat.add_zero, show ((Kd.slice 3 (Kd.int .i64))).sz = 1 from rfl, Nat.mul_one] at hv402_0
                      replace hv402_0 := Option.some.inj (hv402_0.symm.trans hx402_0)
                      injection hv402_0 with hva_ hvn_ hvc_
                      rw [hva_] at ge402_0
                      rw [hvc_] at ul402_0
                      have HL402_0 := Aside0.mk (show Kd.V (Kd.int .i64) 3 _ w.heap.size _ _ (rd_L3 l0 x7_2) from Kd.V_mk ul402_0 ge402_0)
                      clear hva_ hvn_ hvc_ ge402_0 ul402_0
                      clear hcc402 hce402
                      have HR402_0 := Aside0.mk hi402_0
                      have HC402_0 := Aside0.mk hl402_0
                      clear hi402_0 hl402_0
                      replace p402 := eq_true p402
                      replace q402 := eq_true q402
                      have p403 : 0 ≤ (a1 : Int) := of_decide_eq_true (by first | (with_reducible assumption) | assumption)
                      have q403 : a1 < ((rd_L3 l0 x7_2).length : Int) := of_decide_eq_true (by first | (with_reducible assumption) | assumption)
                      obtain ⟨ad403, e403, hx403_0⟩ := Kd.at_int (by repeat (first | (with_reducible exact HR402_0.out) | (with_reducible refine Kd.C_alloc ?_ _) | (with_reducible refine Kd.C_drewN ?_ _) | (with_reducible refine Kd.C_drew ?_) | exact HR402_0.out)) a1 p403 q403
                      cases e403
                      replace p403 := eq_true p403
                      replace q403 := eq_true q403
                      go_wp2
                      go_roundg k2
                      case measure => have := HK1.out; have := HK2.out; omega
                      case rel => exact ⟨(x5_2), (wrap64 (x7_2 + 1)), (by first | rfl | (simp; done) | (simp [*]; done)), H', ⟨by have := HK1.out; have := HK2.out; omega⟩, ⟨by (with_reducible repeat (first | apply Kd.V_alloc | apply Kd.V_drewN | apply Kd.V_drew)); exact HO_0.out⟩, ⟨by (with_reducible repeat (first | apply Kd.N_alloc | apply Kd.N_drewN | apply Kd.N_drew)); exact HO_5.out⟩, ⟨by repeat (first | (with_reducible first | exact HB.out | apply below_alloc | apply pw_below_drewN | apply below_drew1) | exact HB.out)⟩⟩
                  · rw [if_neg c9] at H
                    exact absurd H (by simp)
                · rw [if_neg c8] at H
                  exact absurd H (by simp)
              · rw [if_neg c7] at H
                exact absurd H (by simp)
            · rw [if_neg c6] at H
              have c6b0 : decide (x7_2 < (l0.length : Int)) = false := decide_eq_false c6
              clear c6
              have H' := Aside0.mk H
              clear H
              go_wp2
              go_roundg k2
              case measure => have := HK1.out; have := HK2.out; omega
              case rel => exact ⟨(x5_2), (wrap64 (x6_1 + 1)), (by first | rfl | (simp; done) | (simp [*]; done)), H', ⟨by have := HK1.out; have := HK2.out; omega⟩, ⟨by (with_reducible repeat (first | apply Kd.V_alloc | apply Kd.V_drewN | apply Kd.V_drew)); exact HO_0.out⟩, ⟨by (with_reducible repeat (first | apply Kd.N_alloc | apply Kd.N_drewN | apply Kd.N_drew)); exact HO_5.out⟩, ⟨by repeat (first | (with_reducible first | exact HB.out | apply below_alloc | apply pw_below_drewN | apply below_drew1) | exact HB.out)⟩⟩
      · rw [if_neg c5] at H
        have c5b0 : decide (x6_1 < 256) = false := decide_eq_false c5
        clear c5
        obtain rfl := Option.some.inj H
        go_wp2
        go_ret
        exact ⟨_, by first | rfl | (simp [errW_none, errW_some] <;> rfl) | (simp [*, errW_none, errW_some] <;> rfl), by (with_reducible repeat (first | apply Kd.N_alloc | apply Kd.N_drewN | apply Kd.N_drew)); exact HO_5.out, by repeat (first | (with_reducible first | exact HB.out | apply below_alloc | apply pw_below_drewN | apply below_drew1) | exact HB.out)⟩
theorem spec_l21Sort.ev (box : List (List Int)) (hp : ∀ px ∈ box, isPx px = true) (hl : box.length ≤ 1048576) (j : Int) (h0 : 0 ≤ j) (h1 : j ≤ 2) : Ev (fun k => spec_l21Sort.f k box j) (sortM box j) := by
  unfold spec_l21Sort.f
  have hlen : ∀ n : Nat, (sortGo box j n).length ≤ box.length := by
    intro n
    induction box with
    | nil =>
      have : ∀ n, sortGo [] j n = [] := by
        intro n
        induction n with
        | zero => rfl
        | succ n ih => simp [sortGo, ih, sortV]
      rw [this]; simp
    | cons px t ih =>
      have := ih (fun q hq => hp q (List.mem_cons_of_mem _ hq)) (by simp at hl; omega)
      rw [sortGo_cons, List.length_cons]
      split <;> omega
  have outer : ∀ d v : Nat, 256 - v = d → v ≤ 256 → Ev (fun k => spec_l21Sort.l0 k box j (sortGo box j v) (v : Int)) (sortM box j) := by
    intro d
    induction d with
    | zero =>
      intro v hd hv
      obtain rfl : v = 256 := by omega
      refine Ev.step (fun _ => by rw [spec_l21Sort.l0]) ?_
      refine Ev.ng (by omega) ?_
      exact Ev.eq (Ev.now _) rfl
    | succ d ihd =>
      intro v hd hv
      refine Ev.step (fun _ => by rw [spec_l21Sort.l0]) (Ev.ip (by omega) ?_)
      have inner : ∀ e i : Nat, box.length - i = e → i ≤ box.length → Ev (fun k => spec_l21Sort.l1 k box j (sortGo box j v ++ sortV (box.take i) j v) (v : Int) (i : Int)) (sortM box j) := by
        intro e
        induction e with
        | zero =>
          intro i he hi
          obtain rfl : i = box.length := by omega
          refine Ev.step (fun _ => by rw [spec_l21Sort.l1]) (Ev.ng (by omega) ?_)
          rw [List.take_length, wrap_succ v (by omega)]
          exact ihd (v + 1) (by omega) (by omega)
        | succ e ih =>
          intro i he hi
          have hlt : i < box.length := by omega
          have hx := px_rd (hp _ (List.getElem_mem hlt)) j h0 (by omega)
          have er : rd_L3 box (i : Int) = box[i] := by simp [rd_L3, hlt]
          have hfl : (sortV (box.take i) j v).length ≤ i := Nat.le_trans (List.length_filter_le _ _) (by rw [List.length_take]; omega)
          have hgl := hlen v
          have es : sortV (box.take (i + 1)) j v = sortV (box.take i) j v ++ (if rd box[i] j = v then [box[i]] else []) := by
            unfold sortV
            rw [List.take_succ_eq_append_getElem hlt, List.filter_append]
            congr 1
            by_cases h : rd box[i] j = v
            · rw [if_pos h]; simp [h]
            · rw [if_neg h]; simp [h]
          refine Ev.step (fun _ => by rw [spec_l21Sort.l1]) (Ev.ip (by omega) (Ev.ip (by omega) (Ev.ip h0 ?_)))
          rw [er, wrap_succ i (by omega)]
          refine Ev.ip (by omega) ?_
          have hn := ih (i + 1) (by omega) (by omega)
          rw [es] at hn
          by_cases c : rd box[i] j = v
          · rw [if_pos c, ← List.append_assoc] at hn
            exact Ev.ip c (Ev.ip (by rw [List.length_append]; omega) hn)
          · rw [if_neg c, List.append_nil] at hn
            exact Ev.ng c hn
      have := inner _ 0 rfl (by omega)
      simpa [sortV] using this
  exact outer _ 0 rfl (by omega)
end Go.Proofs.Ytcjjmfpkhhdmlaa.G

namespace Go.Proofs.Ytcjjmfpkhhdmlaa.G
open Go.RowKit Go.Proofs.YtcjjmfpkhhdmlaaW.PrintWords Go.Proofs.YtcjjmfpkhhdmlaaW.PrintLast Go.Proofs.YtcjjmfpkhhdmlaaW.PrintMore
attribute [local go_sem] max2_int min2_int max_two min_two max_three min_three max_four min_four   -- for this text's walks alone
/-! ### spec_l01Between: function 78 -/
def spec_l01Between.f (a0 : Int) (a1 : Int) (a2 : Int) : Option (Bool) := if a0 ≥ a1 then (some (decide (a0 ≤ a2))) else (some false)
set_option maxHeartbeats 8000000 in
set_option maxRecDepth 100000 in
theorem spec_l01Between.calls (a0 : Int) (a1 : Int) (a2 : Int) (r : Bool) (w : World) (h : spec_l01Between.f a0 a1 a2 = some r) :
    Calls Try.prog 78 #[.int .i64 a0, .int .i64 a1, .int .i64 a2] w fun e w' => e = .returned (.bool r) ∧ Drawn0 w w' := by
  have H : (if a0 ≥ a1 then (some (decide (a0 ≤ a2))) else (some false)) = some r := h
  clear h
  by_cases c4 : a0 ≥ a1
  · rw [if_pos c4] at H
    have c4b0 : decide (a1 ≤ a0) = true := decide_eq_true c4
    clear c4
    obtain rfl := Option.some.inj H
    go_enter Try.func78, Try.ntmps78
    go_wp2
    go_ret
    exact ⟨by first | rfl | (simp; done) | (simp [*]; done), by repeat (first | exact Drawn0.refl _ | apply Drawn0.step)⟩
  · rw [if_neg c4] at H
    have c4b0 : decide (a1 ≤ a0) = false := decide_eq_false c4
    clear c4
    obtain rfl := Option.some.inj H
    go_enter Try.func78, Try.ntmps78
    go_wp2
    go_ret
    exact ⟨by first | rfl | (simp; done) | (simp [*]; done), by repeat (first | exact Drawn0.refl _ | apply Drawn0.step)⟩
theorem spec_l01Between.val (x lo hi : Int) : spec_l01Between.f x lo hi = some (decide (lo ≤ x) && decide (x ≤ hi)) := by
  unfold spec_l01Between.f
  by_cases h1 : x ≥ lo
  · rw [if_pos h1]; simp [ge_iff_le.mp h1]
  · rw [if_neg h1]; have : ¬ lo ≤ x := h1; simp [this]
end Go.Proofs.Ytcjjmfpkhhdmlaa.G

namespace Go.Proofs.Ytcjjmfpkhhdmlaa.G
open Go.RowKit Go.Proofs.YtcjjmfpkhhdmlaaW.PrintWords Go.Proofs.YtcjjmfpkhhdmlaaW.PrintLast Go.Proofs.YtcjjmfpkhhdmlaaW.PrintMore
attribute [local go_sem] max2_int min2_int max_two min_two max_three min_three max_four min_four   -- for this text's walks alone
/-! ### spec_l21Px: function 116 -/
def spec_l21Px.l0 : Nat → List Int → Int → Option (Bool)
  | 0, _, _ => none
  | k + 1, x0, x3 => if x3 < 3 then (if 0 ≤ x3 then (if x3 < (x0.length : Int) then ((spec_l01Between.f (rd x0 x3) 0 255).bind fun t364 => (if t364 = true then (spec_l21Px.l0 k x0 (wrap64 (x3 + 1))) else (some false))) else (none)) else (none)) else (some true)
def spec_l21Px.f (k : Nat) (l0 : List Int) : Option (Bool) := if (l0.length : Int) = 3 then (spec_l21Px.l0 k l0 0) else (some false)
theorem spec_l21Px.mono_l : ∀ k, (∀ y0 y1, LeO (spec_l21Px.l0 k y0 y1) (spec_l21Px.l0 (k + 1) y0 y1))
  | 0 => fun _ _ r h => by simp [spec_l21Px.l0] at h
  | k + 1 => by
    have ih0 := spec_l21Px.mono_l k
    · intro y0 y1
      unfold spec_l21Px.l0
      repeat' first
      | (with_reducible exact ih0 _ _)
      | (with_reducible exact LeO.refl _)
      | (with_reducible exact LeO.none _)
      | (with_reducible refine LeO.ite ?_ ?_)
      | (with_reducible refine LeO.bind ?_ (fun _ => ?_))
      | exact ih0 _ _
      | exact LeO.none _
      | refine LeO.ite ?_ ?_
      | refine LeO.bind ?_ (fun _ => ?_)
theorem spec_l21Px.mono : ∀ a0 k, LeO (spec_l21Px.f k a0) (spec_l21Px.f (k + 1) a0) := by
  intro a0 k
  have ih0 := spec_l21Px.mono_l k
  unfold spec_l21Px.f
  repeat' first
      | (with_reducible exact ih0 _ _)
      | (with_reducible exact LeO.refl _)
      | (with_reducible exact LeO.none _)
      | (with_reducible refine LeO.ite ?_ ?_)
      | (with_reducible refine LeO.bind ?_ (fun _ => ?_))
      | exact ih0 _ _
      | exact LeO.none _
      | refine LeO.ite ?_ ?_
      | refine LeO.bind ?_ (fun _ => ?_)
set_option maxHeartbeats 8000000 in
set_option maxRecDepth 100000 in
theorem spec_l21Px.calls (k : Nat) (A0 : Option Addr) (c0 : Nat) (l0 : List Int) (r : Bool) (w : World) (hr0 : Kd.C (Kd.int .i64) w A0 l0.length l0) (hc0 : l0.length ≤ c0) (h : spec_l21Px.f k l0 = some r) :
    Calls Try.prog 116 #[.slice A0 l0.length c0] w fun e w' => e = .returned (.bool r) ∧ Drawn0 w w' := by
  have HR0 := Aside0.mk hr0
  have HC0 := Aside0.mk hc0
  clear hr0 hc0
  have H : (if (l0.length : Int) = 3 then (spec_l21Px.l0 k l0 0) else (some false)) = some r := h
  clear h
  by_cases c2 : (l0.length : Int) = 3
  · rw [if_pos c2] at H
    have c2b0 : ((l0.length : Int) == 3) = true := beq_iff_eq.mpr c2
    have c2b1 : ((l0.length : Int) != 3) = false := bne_eq_false_iff_eq.mpr c2
    clear c2
    have H' := Aside0.mk H
    clear H
    go_enter Try.func116, Try.ntmps116
    go_wp2
    go_loopg [3] k (fun kq v3 w' => ∃ (x3_1 : Int), v3 = .int .i64 x3_1 ∧ Aside0 (spec_l21Px.l0 kq l0 x3_1 = some r) ∧ Aside0 (kq ≤ k) ∧ Drawn0 w w')
    case atStart => exact ⟨(0), (by first | rfl | (simp; done) | (simp [*]; done)), H', ⟨Nat.le_refl _⟩, by repeat (first | exact Drawn0.refl _ | apply Drawn0.step)⟩
    case round =>
      clear H'
      try clear c1
      try clear c2
      try clear c2b0
      try clear c2b1
      try clear p2
      obtain ⟨x3_1, rfl, HA, HK1, ⟨m1, rfl⟩⟩ := hrel
      cases gk with
      | zero => exact absurd HA.out (by simp [spec_l21Px.l0])
      | succ k1 =>
        have H := HA.out
        clear HA
        simp only [spec_l21Px.l0] at H
        by_cases c3 : x3_1 < 3
        · rw [if_pos c3] at H
          have c3b0 : decide (x3_1 < 3) = true := decide_eq_true c3
          clear c3
          by_cases c4 : 0 ≤ x3_1
          · rw [if_pos c4] at H
            have c4b0 : decide (0 ≤ x3_1) = true := decide_eq_true c4
            clear c4
            by_cases c5 : x3_1 < (l0.length : Int)
            · rw [if_pos c5] at H
              have c5b0 : decide (x3_1 < (l0.length : Int)) = true := decide_eq_true c5
              clear c5
              replace H := Option.bind_eq_some_iff.mp H
              obtain ⟨t364, A60, H⟩ := H
              replace H : (if t364 = true then (spec_l21Px.l0 k1 l0 (wrap64 (x3_1 + 1))) else (some false)) = some r := H
              have A6 := Aside0.mk A60
              clear A60
              by_cases c7 : t364 = true
              · subst c7
                have H1 : (spec_l21Px.l0 k1 l0 (wrap64 (x3_1 + 1))) = some r := by rw [if_pos rfl] at H; exact H
                clear H
                have H := H1
                clear H1
                have H' := Aside0.mk H
                clear H
                have p363 : 0 ≤ (x3_1 : Int) := of_decide_eq_true (by first | (with_reducible assumption) | assumption)
                have q363 : x3_1 < (l0.length : Int) := of_decide_eq_true (by first | (with_reducible assumption) | assumption)
                obtain ⟨ad363, e363, hx363_0⟩ := Kd.at_int HR0.out x3_1 p363 q363
                cases e363
                replace p363 := eq_true p363
                replace q363 := eq_true q363
                go_wp2_with (first | ((with_reducible refine gate_callee (f := 78) rfl ?_); refine goesL_ (some 15) rfl rfl Try.func78 (by kernel_rfl) rfl #[.int .i64 (rd l0 x3_1), .int .i64 0, .int .i64 255] rfl (by (try simp only [List.map_toArray, List.map_cons, List.map_nil]); first | done | rfl | (simp only [List.length_drop, List.length_take]; rfl)) ?_; (with_reducible refine (spec_l01Between.calls (rd l0 x3_1) 0 255 true _ A6.out).mono ?_); rintro e w' ⟨rfl, ⟨nd, rfl⟩⟩; refine ⟨_, rfl, ?_⟩))
                go_roundg k1
                case measure => have := HK1.out; omega
                case rel => exact ⟨(wrap64 (x3_1 + 1)), (by first | rfl | (simp; done) | (simp [*]; done)), H', ⟨by have := HK1.out; omega⟩, by repeat (first | exact Drawn0.refl _ | apply Drawn0.step)⟩
              · replace c7 := Bool.eq_false_iff.mpr c7
                subst c7
                have H1 : (some false) = some r := by rw [if_neg (show ¬ (false = true) by decide)] at H; exact H
                clear H
                have H := H1
                clear H1
                obtain rfl := Option.some.inj H
                have p363 : 0 ≤ (x3_1 : Int) := of_decide_eq_true (by first | (with_reducible assumption) | assumption)
                have q363 : x3_1 < (l0.length : Int) := of_decide_eq_true (by first | (with_reducible assumption) | assumption)
                obtain ⟨ad363, e363, hx363_0⟩ := Kd.at_int HR0.out x3_1 p363 q363
                cases e363
                replace p363 := eq_true p363
                replace q363 := eq_true q363
                go_wp2_with (first | ((with_reducible refine gate_callee (f := 78) rfl ?_); refine goesL_ (some 15) rfl rfl Try.func78 (by kernel_rfl) rfl #[.int .i64 (rd l0 x3_1), .int .i64 0, .int .i64 255] rfl (by (try simp only [List.map_toArray, List.map_cons, List.map_nil]); first | done | rfl | (simp only [List.length_drop, List.length_take]; rfl)) ?_; (with_reducible refine (spec_l01Between.calls (rd l0 x3_1) 0 255 false _ A6.out).mono ?_); rintro e w' ⟨rfl, ⟨nd, rfl⟩⟩; refine ⟨_, rfl, ?_⟩))
                go_ret
                exact ⟨by first | rfl | (simp; done) | (simp [*]; done), by repeat (first | exact Drawn0.refl _ | apply Drawn0.step)⟩
            · rw [if_neg c5] at H
              exact absurd H (by simp)
          · rw [if_neg c4] at H
            exact absurd H (by simp)
        · rw [if_neg c3] at H
          have c3b0 : decide (x3_1 < 3) = false := decide_eq_false c3
          clear c3
          obtain rfl := Option.some.inj H
          go_wp2
          go_ret
          exact ⟨by first | rfl | (simp; done) | (simp [*]; done), by repeat (first | exact Drawn0.refl _ | apply Drawn0.step)⟩
  · rw [if_neg c2] at H
    have c2b0 : ((l0.length : Int) == 3) = false := beq_eq_false_iff_ne.mpr c2
    have c2b1 : ((l0.length : Int) != 3) = true := bne_iff_ne.mpr c2
    obtain rfl := Option.some.inj H
    go_enter Try.func116, Try.ntmps116
    go_wp2
    go_ret
    exact ⟨by first | rfl | (simp; done) | (simp [*]; done), by repeat (first | exact Drawn0.refl _ | apply Drawn0.step)⟩
theorem spec_between (x lo hi : Int) : spec_l01Between.f x lo hi = some (decide (lo ≤ x) && decide (x ≤ hi)) := by
  unfold spec_l01Between.f
  by_cases h1 : x ≥ lo
  · rw [if_pos h1]; simp [ge_iff_le.mp h1]
  · rw [if_neg h1]; have : ¬ lo ≤ x := h1; simp [this]
theorem spec_l21Px.ev (l : List Int) : Ev (fun k => spec_l21Px.f k l) (isPx l) := by
  unfold isPx allW
  unfold spec_l21Px.f
  by_cases hl : l.length = 3
  · refine Ev.ip (by omega) ?_
    match l, hl with
    | [a, b, c], _ =>
      have r0 : rd [a, b, c] 0 = a := rfl
      have r1 : rd [a, b, c] 1 = b := rfl
      have r2 : rd [a, b, c] 2 = c := rfl
      have w0 : wrap64 (0 + 1) = 1 := by unfold wrap64; omega
      have w1 : wrap64 (1 + 1) = 2 := by unfold wrap64; omega
      have w2 : wrap64 (2 + 1) = 3 := by unfold wrap64; omega
      refine Ev.step (fun _ => by rw [spec_l21Px.l0]) (Ev.ip (by omega) (Ev.ip (by omega) (Ev.ip (by simp) ?_)))
      rw [r0, w0]
      refine Ev.bind (Ev.c (spec_between _ _ _)) ?_
      by_cases ha : (decide (0 ≤ a) && decide (a ≤ 255)) = true
      · refine Ev.ip ha (Ev.step (fun _ => by rw [spec_l21Px.l0]) (Ev.ip (by omega) (Ev.ip (by omega) (Ev.ip (by simp) ?_))))
        rw [r1, w1]
        refine Ev.bind (Ev.c (spec_between _ _ _)) ?_
        by_cases hb : (decide (0 ≤ b) && decide (b ≤ 255)) = true
        · refine Ev.ip hb (Ev.step (fun _ => by rw [spec_l21Px.l0]) (Ev.ip (by omega) (Ev.ip (by omega) (Ev.ip (by simp) ?_))))
          rw [r2, w2]
          refine Ev.bind (Ev.c (spec_between _ _ _)) ?_
          by_cases hc : (decide (0 ≤ c) && decide (c ≤ 255)) = true
          · refine Ev.ip hc (Ev.step (fun _ => by rw [spec_l21Px.l0]) (Ev.ng (by omega) (Ev.eq (Ev.now _) ?_)))
            simp only [List.all_cons, List.all_nil, ha, hb, hc]; rfl
          · refine Ev.ng hc (Ev.eq (Ev.now _) ?_)
            simp only [List.all_cons, List.all_nil, ha, hb, Bool.eq_false_iff.2 hc]; rfl
        · refine Ev.ng hb (Ev.eq (Ev.now _) ?_)
          simp only [List.all_cons, List.all_nil, ha, Bool.eq_false_iff.2 hb]; rfl
      · refine Ev.ng ha (Ev.eq (Ev.now _) ?_)
        simp only [List.all_cons, List.all_nil, Bool.eq_false_iff.2 ha]; rfl
  · exact Ev.ng (by omega) (Ev.eq (Ev.now _) (by simp [hl]))
end Go.Proofs.Ytcjjmfpkhhdmlaa.G

namespace Go.Proofs.Ytcjjmfpkhhdmlaa.G
open Go.RowKit Go.Proofs.YtcjjmfpkhhdmlaaW.PrintWords Go.Proofs.YtcjjmfpkhhdmlaaW.PrintLast Go.Proofs.YtcjjmfpkhhdmlaaW.PrintMore
attribute [local go_sem] max2_int min2_int max_two min_two max_three min_three max_four min_four   -- for this text's walks alone
/-! ### spec_PixelsOk: function 57 -/
def spec_PixelsOk.l0 : Nat → List (List Int) → Int → Option (Bool)
  | 0, _, _ => none
  | k + 1, x0, x3 => if x3 < (x0.length : Int) then (if 0 ≤ x3 then ((spec_l21Px.f k (rd_L3 x0 x3)).bind fun t366 => (if t366 = true then (spec_PixelsOk.l0 k x0 (wrap64 (x3 + 1))) else (some false))) else (none)) else (some true)
def spec_PixelsOk.f (k : Nat) (l0 : List (List Int)) : Option (Bool) := if (l0.length : Int) > 4096 then (some false) else (spec_PixelsOk.l0 k l0 0)
theorem spec_PixelsOk.mono_l : ∀ k, (∀ y0 y1, LeO (spec_PixelsOk.l0 k y0 y1) (spec_PixelsOk.l0 (k + 1) y0 y1))
  | 0 => fun _ _ r h => by simp [spec_PixelsOk.l0] at h
  | k + 1 => by
    have ih0 := spec_PixelsOk.mono_l k
    · intro y0 y1
      unfold spec_PixelsOk.l0
      repeat' first
      | (with_reducible exact ih0 _ _)
      | (with_reducible exact spec_l21Px.mono _ _)
      | (with_reducible exact LeO.refl _)
      | (with_reducible exact LeO.none _)
      | (with_reducible refine LeO.ite ?_ ?_)
      | (with_reducible refine LeO.bind ?_ (fun _ => ?_))
      | exact ih0 _ _
      | exact spec_l21Px.mono _ _
      | exact LeO.none _
      | refine LeO.ite ?_ ?_
      | refine LeO.bind ?_ (fun _ => ?_)
theorem spec_PixelsOk.mono : ∀ a0 k, LeO (spec_PixelsOk.f k a0) (spec_PixelsOk.f (k + 1) a0) := by
  intro a0 k
  have ih0 := spec_PixelsOk.mono_l k
  unfold spec_PixelsOk.f
  repeat' first
      | (with_reducible exact ih0 _ _)
      | (with_reducible exact spec_l21Px.mono _ _)
      | (with_reducible exact LeO.refl _)
      | (with_reducible exact LeO.none _)
      | (with_reducible refine LeO.ite ?_ ?_)
      | (with_reducible refine LeO.bind ?_ (fun _ => ?_))
      | exact ih0 _ _
      | exact spec_l21Px.mono _ _
      | exact LeO.none _
      | refine LeO.ite ?_ ?_
      | refine LeO.bind ?_ (fun _ => ?_)
set_option maxHeartbeats 8000000 in
set_option maxRecDepth 100000 in
theorem spec_PixelsOk.calls (k : Nat) (A0 : Option Addr) (c0 : Nat) (l0 : List (List Int)) (r : Bool) (w : World) (hr0 : Kd.C (Kd.slice 3 (Kd.int .i64)) w A0 l0.length l0) (hc0 : l0.length ≤ c0) (h : spec_PixelsOk.f k l0 = some r) :
    Calls Try.prog 57 #[.slice A0 l0.length c0] w fun e w' => e = .returned (.bool r) ∧ Drawn0 w w' := by
  have HR0 := Aside0.mk hr0
  have HC0 := Aside0.mk hc0
  clear hr0 hc0
  have H : (if (l0.length : Int) > 4096 then (some false) else (spec_PixelsOk.l0 k l0 0)) = some r := h
  clear h
  by_cases c2 : (l0.length : Int) > 4096
  · rw [if_pos c2] at H
    have c2b0 : decide (4096 < (l0.length : Int)) = true := decide_eq_true c2
    have c2b1 : decide (4096 < l0.length) = true := decide_eq_true (by omega)
    clear c2
    obtain rfl := Option.some.inj H
    go_enter Try.func57, Try.ntmps57
    go_wp2
    go_ret
    exact ⟨by first | rfl | (simp; done) | (simp [*]; done), by repeat (first | exact Drawn0.refl _ | apply Drawn0.step)⟩
  · rw [if_neg c2] at H
    have c2b0 : decide (4096 < (l0.length : Int)) = false := decide_eq_false c2
    have c2b1 : decide (4096 < l0.length) = false := decide_eq_false (by omega)
    clear c2
    have H' := Aside0.mk H
    clear H
    go_enter Try.func57, Try.ntmps57
    go_wp2
    go_loopg [3] k (fun kq v3 w' => ∃ (x3_1 : Int), v3 = .int .i64 x3_1 ∧ Aside0 (spec_PixelsOk.l0 kq l0 x3_1 = some r) ∧ Aside0 (kq ≤ k) ∧ Drawn0 w w')
    case atStart => exact ⟨(0), (by first | rfl | (simp; done) | (simp [*]; done)), H', ⟨Nat.le_refl _⟩, by repeat (first | exact Drawn0.refl _ | apply Drawn0.step)⟩
    case round =>
      clear H'
      try clear c2
      try clear c2b0
      try clear c2b1
      try clear p2
      obtain ⟨x3_1, rfl, HA, HK1, ⟨m1, rfl⟩⟩ := hrel
      cases gk with
      | zero => exact absurd HA.out (by simp [spec_PixelsOk.l0])
      | succ k1 =>
        have H := HA.out
        clear HA
        simp only [spec_PixelsOk.l0] at H
        by_cases c3 : x3_1 < (l0.length : Int)
        · rw [if_pos c3] at H
          have c3b0 : decide (x3_1 < (l0.length : Int)) = true := decide_eq_true c3
          clear c3
          by_cases c4 : 0 ≤ x3_1
          · rw [if_pos c4] at H
            have c4b0 : decide (0 ≤ x3_1) = true := decide_eq_true c4
            clear c4
            replace H := Option.bind_eq_some_iff.mp H
            obtain ⟨t366, A50, H⟩ := H
            replace H : (if t366 = true then (spec_PixelsOk.l0 k1 l0 (wrap64 (x3_1 + 1))) else (some false)) = some r := H
            have A5 := Aside0.mk A50
            clear A50
            by_cases c6 : t366 = true
            · subst c6
              have H1 : (spec_PixelsOk.l0 k1 l0 (wrap64 (x3_1 + 1))) = some r := by rw [if_pos rfl] at H; exact H
              clear H
              have H := H1
              clear H1
              have H' := Aside0.mk H
              clear H
              have p365 : 0 ≤ (x3_1 : Int) := of_decide_eq_true (by first | (with_reducible assumption) | assumption)
              have q365 : x3_1 < (l0.length : Int) := of_decide_eq_true (by first | (with_reducible assumption) | assumption)
              obtain ⟨ad365, A365_0, c365_0, e365, hx365_0, hl365_0, hi365_0⟩ := at_L3 HR0.out x3_1 p365 q365
              cases e365
              have HR365_0 := Aside0.mk hi365_0
              have HC365_0 := Aside0.mk hl365_0
              clear hi365_0 hl365_0
              replace p365 := eq_true p365
              replace q365 := eq_true q365
              go_wp2_with (first | ((with_reducible refine gate_callee (f := 116) rfl ?_); refine goesL_ (some 17) rfl rfl Try.func116 (by kernel_rfl) rfl #[.slice A365_0 (rd_L3 l0 x3_1).length c365_0] rfl (by (try simp only [List.map_toArray, List.map_cons, List.map_nil]); first | done | rfl | (simp only [List.length_drop, List.length_take]; rfl)) ?_; (with_reducible refine (spec_l21Px.calls k1 _ _ (rd_L3 l0 x3_1) true _ ?side1 ?side2 A5.out).mono ?_); (case side1 => repeat (first | exact HR365_0.out | (with_reducible refine Kd.C_alloc ?_ _) | (with_reducible refine Kd.C_drewN ?_ _) | (with_reducible refine Kd.C_drew ?_))); (case side2 => exact HC365_0.out); rintro e w' ⟨rfl, ⟨nd, rfl⟩⟩; refine ⟨_, rfl, ?_⟩))
              go_roundg k1
              case measure => have := HK1.out; omega
              case rel => exact ⟨(wrap64 (x3_1 + 1)), (by first | rfl | (simp; done) | (simp [*]; done)), H', ⟨by have := HK1.out; omega⟩, by repeat (first | exact Drawn0.refl _ | apply Drawn0.step)⟩
            · replace c6 := Bool.eq_false_iff.mpr c6
              subst c6
              have H1 : (some false) = some r := by rw [if_neg (show ¬ (false = true) by decide)] at H; exact H
              clear H
              have H := H1
              clear H1
              obtain rfl := Option.some.inj H
              have p365 : 0 ≤ (x3_1 : Int) := of_decide_eq_true (by first | (with_reducible assumption) | assumption)
              have q365 : x3_1 < (l0.length : Int) := of_decide_eq_true (by first | (with_reducible assumption) | assumption)
              obtain ⟨ad365, A365_0, c365_0, e365, hx365_0, hl365_0, hi365_0⟩ := at_L3 HR0.out x3_1 p365 q365
              cases e365
              have HR365_0 := Aside0.mk hi365_0
              have HC365_0 := Aside0.mk hl365_0
              clear hi365_0 hl365_0
              replace p365 := eq_true p365
              replace q365 := eq_true q365
              go_wp2_with (first | ((with_reducible refine gate_callee (f := 116) rfl ?_); refine goesL_ (some 17) rfl rfl Try.func116 (by kernel_rfl) rfl #[.slice A365_0 (rd_L3 l0 x3_1).length c365_0] rfl (by (try simp only [List.map_toArray, List.map_cons, List.map_nil]); first | done | rfl | (simp only [List.length_drop, List.length_take]; rfl)) ?_; (with_reducible refine (spec_l21Px.calls k1 _ _ (rd_L3 l0 x3_1) false _ ?side1 ?side2 A5.out).mono ?_); (case side1 => repeat (first | exact HR365_0.out | (with_reducible refine Kd.C_alloc ?_ _) | (with_reducible refine Kd.C_drewN ?_ _) | (with_reducible refine Kd.C_drew ?_))); (case side2 => exact HC365_0.out); rintro e w' ⟨rfl, ⟨nd, rfl⟩⟩; refine ⟨_, rfl, ?_⟩))
              go_ret
              exact ⟨by first | rfl | (simp; done) | (simp [*]; done), by repeat (first | exact Drawn0.refl _ | apply Drawn0.step)⟩
          · rw [if_neg c4] at H
            exact absurd H (by simp)
        · rw [if_neg c3] at H
          have c3b0 : decide (x3_1 < (l0.length : Int)) = false := decide_eq_false c3
          clear c3
          obtain rfl := Option.some.inj H
          go_wp2
          go_ret
          exact ⟨by first | rfl | (simp; done) | (simp [*]; done), by repeat (first | exact Drawn0.refl _ | apply Drawn0.step)⟩
theorem spec_PixelsOk.ev (l : List (List Int)) : Ev (fun k => spec_PixelsOk.f k l) (decide (l.length ≤ 4096) && l.all isPx) := by
  unfold spec_PixelsOk.f
  by_cases hl : l.length ≤ 4096
  · refine Ev.ng (by omega) ?_
    have key : ∀ d i : Nat, l.length - i = d → i ≤ l.length → Ev (fun k => spec_PixelsOk.l0 k l (i : Int)) ((l.drop i).all isPx) := by
      intro d
      induction d with
      | zero =>
        intro i hd hi
        refine Ev.step (fun _ => by rw [spec_PixelsOk.l0]) (Ev.ng (by omega) (Ev.eq (Ev.now _) ?_))
        rw [List.drop_of_length_le (by omega)]; rfl
      | succ d ih =>
        intro i hd hi
        have hlt : i < l.length := by omega
        refine Ev.step (fun _ => by rw [spec_PixelsOk.l0]) (Ev.ip (by omega) (Ev.ip (by omega) ?_))
        rw [show rd_L3 l (i : Int) = l[i] by simp [rd_L3, hlt], wrap_succ i (by omega), List.drop_eq_getElem_cons hlt, List.all_cons]
        refine Ev.bind (spec_l21Px.ev l[i]) ?_
        cases isPx l[i]
        · exact Ev.ng (by simp) (Ev.now _)
        · exact Ev.ip rfl (Ev.eq (ih (i + 1) (by omega) (by omega)) (by simp))
    exact Ev.eq (key _ 0 rfl (by omega)) (by simp [hl])
  · exact Ev.ip (by omega) (Ev.eq (Ev.now _) (by simp [hl]))
end Go.Proofs.Ytcjjmfpkhhdmlaa.G

namespace Go.Proofs.Ytcjjmfpkhhdmlaa.G
open Go.RowKit Go.Proofs.YtcjjmfpkhhdmlaaW.PrintWords Go.Proofs.YtcjjmfpkhhdmlaaW.PrintLast Go.Proofs.YtcjjmfpkhhdmlaaW.PrintMore
attribute [local go_sem] max2_int min2_int max_two min_two max_three min_three max_four min_four   -- for this text's walks alone
/-! ### spec_Palette: function 52 -/
--import Derived.BigRegion
--import Derived.Deep.CutBlock
--import Derived.Deep.CutRange
--import Derived.Deep.LoopGhost
--import Derived.Deep.DeepCutAuto
def spec_Palette.f (l0 : List (List Int)) (a1 : Int) : Option (List (List Int)) := if l0.length ≤ 1048576 then some (palM l0 a1) else none
abbrev dBox : Kd (List (List Int)) := Kd.slice 22 (Kd.slice 3 (Kd.int .i64))
theorem boxes_start {w W : World} {A0 : Option Addr} {c0 : Nat} {l0 : List (List Int)} (hr0 : Kd.C (Kd.slice 3 (Kd.int .i64)) w A0 l0.length l0) (hc0 : l0.length ≤ c0) (hB : Below w.heap.size w W) : Reps (Kd.FK dBox W (fun k => k < w.heap.size)) 1 [l0] [.slice A0 l0.length c0] := by
  have hF := Kd.F_step (Kd.C_F (Kd.heap_slice _ (Kd.heap_int _)) hr0) (fun k hk _ => hB.block k hk)
  exact (Reps.none _ _).snoc (Kd.FK_slice_mk hc0 hF) rfl
def PalRel (w : World) (a1 : Int) (l0 : List (List Int)) (v5 : Value) (kq : Nat) (v6 : Value) (w' : World) : Prop :=
  ∃ (bs : List (List (List Int))) (f : Nat), Aside0 (Kd.N dBox 36 w' w.heap.size (fun k => True ∧ some k ≠ (v5 : Value).ownBlock) v6 bs) ∧ Aside0 (BoxesOk bs) ∧ Aside0 (palGo a1 f bs = palGo a1 a1.toNat [l0]) ∧ Aside0 (Kd.S (Kd.slice 3 (Kd.int .i64)) 22 w' w.heap.size (fun _ => True) v5 []) ∧ Aside0 (Below w.heap.size w w') ∧ a1 ≤ bs.length + f ∧ 1 ≤ bs.length ∧ kq = a1.toNat - bs.length + 1
def PalEnd (w : World) (a1 : Int) (l0 : List (List Int)) (v5 : Value) (v6 : Value) (w' : World) : Prop :=
  ∃ bs : List (List (List Int)), Aside0 (Kd.N dBox 36 w' w.heap.size (fun k => True ∧ some k ≠ (v5 : Value).ownBlock) v6 bs) ∧ Aside0 (BoxesOk bs) ∧ Aside0 (palGo a1 a1.toNat [l0] = bs) ∧ Aside0 (Kd.S (Kd.slice 3 (Kd.int .i64)) 22 w' w.heap.size (fun _ => True) v5 []) ∧ Aside0 (Below w.heap.size w w')
theorem s_not {w W : World} {ok : Nat → Prop} {v : Value} {xs : List (List Int)} (h : Kd.S (Kd.slice 3 (Kd.int .i64)) 22 W w.heap.size ok v xs) : (∀ k, k < w.heap.size → some k ≠ v.ownBlock) ∧ (∀ k, W.heap.size ≤ k → some k ≠ v.ownBlock) :=
  ⟨fun k hk e => by have := Kd.R_base (Kd.S_R h) k e.symm; omega, fun k hk e => by have := Kd.S_lt h k e.symm; omega⟩
theorem palGo_stop (k : Int) (f : Nat) (bs : List (List (List Int))) (h : ¬ (bs.length : Int) < k ∨ partM bs = none) : palGo k f bs = bs := by
  cases f with
  | zero => rfl
  | succ f =>
    simp only [palGo]
    rcases h with h | h
    · rw [if_neg h]
    · split
      · rw [h]
      · rfl
set_option maxRecDepth 100000 in
set_option maxHeartbeats 8000000 in
theorem spec_Palette.callsS (A0 : Option Addr) (c0 : Nat) (l0 : List (List Int)) (a1 : Int) (r : List (List Int)) (w : World) (hr0 : Kd.C (Kd.slice 3 (Kd.int .i64)) w A0 l0.length l0) (hc0 : l0.length ≤ c0) (h : spec_Palette.f l0 a1 = some r) :
    Calls Try.prog 52 #[.slice A0 l0.length c0, .int .i64 a1] w fun e w' => ∃ v0_ : Value, e = .returned v0_ ∧ Kd.S (Kd.slice 3 (Kd.int .i64)) 22 w' w.heap.size (fun _ => True) v0_ r ∧ Below w.heap.size w w' := by
  unfold spec_Palette.f at h
  split at h
  · rename_i hl
    have HH := Aside0.mk (Option.some.inj h)
    have HR := Aside0.mk hr0
    have HC := Aside0.mk hc0
    clear h hr0 hc0
    go_enter Try.func52, Try.ntmps52
    go_upto_region 2 with (first | ((with_reducible refine gate_dst (N := 19) rfl ?_); refine Kd.S_lit (w0 := w) (Kd.slice 3 (Kd.int .i64)) w.heap.size 22 ?hg (N := 19) ?hd (xs := ([] : List (List Int))) (inner := []) (ok := fun _ => True) (okp := fun _ => True) ?hr ?hp (fun _ hk => hk) trivial (Below.refl _ _) (Nat.le_refl _) (by simp) ?_; (case hd => rfl); (case hg => rfl); (case hr => first | (go_simp; done) | (go_simp; rfl)); (case hp => exact (Reps.none _ _)); intro v5 w1 ho hb hg_ hnew_; have HO := Aside0.mk ho; have HB := Aside0.mk hb; clear ho hb hg_ hnew_))
    obtain ⟨pk, hpk⟩ : ∃ pk, pk = (decide (l0.length ≤ 4096) && l0.all isPx) := ⟨_, rfl⟩
    have hpe := spec_PixelsOk.ev l0
    rw [← hpk] at hpe
    obtain ⟨kp, hkp⟩ := hpe.rounds
    have HKP := Aside0.mk hkp
    have hok : palOk l0 a1 = (pk && decide (l0.length ≠ 0) && (decide (1 ≤ a1) && decide (a1 ≤ 256))) := by unfold palOk; rw [hpk]
    unfold palM at HH
    have hdone : palOk l0 a1 = false → r = [] := fun e => by have h1 := HH.out; rw [e, if_neg (by decide)] at h1; exact h1.symm
    have HDONE := Aside0.mk hdone
    have HOK := Aside0.mk hok
    have HPK := Aside0.mk hpk
    clear hpe hkp hpk hok hdone
    cases pk with
    | false =>
      go_wp2_with fail
      refine (spec_PixelsOk.calls kp A0 c0 l0 false _ (Kd.C_below HR.out HB.out) HC.out HKP.out).mono ?_
      rintro e_ w_ ⟨rfl, ⟨nd, rfl⟩⟩
      go_wp2
      go_ret
      have := HDONE.out (by rw [HOK.out]; rfl)
      subst this
      exact ⟨_, rfl, Kd.S_drewN HO.out _, pw_below_drewN HB.out _⟩
    | true =>
      by_cases hl0 : l0.length = 0
      · have z1 : ((l0.length : Int) == 0) = true := by rw [beq_iff_eq]; omega
        have z2 : (l0.length == 0) = true := by rw [beq_iff_eq]; omega
        have HL0 := Aside0.mk hl0
        clear hl0
        go_wp2_with fail
        refine (spec_PixelsOk.calls kp A0 c0 l0 true _ (Kd.C_below HR.out HB.out) HC.out HKP.out).mono ?_
        rintro e_ w_ ⟨rfl, ⟨nd, rfl⟩⟩
        go_wp2
        go_ret
        have := HDONE.out (by rw [HOK.out, HL0.out]; rfl)
        subst this
        exact ⟨_, rfl, Kd.S_drewN HO.out _, pw_below_drewN HB.out _⟩
      · have z1 : ((l0.length : Int) == 0) = false := by rw [beq_eq_false_iff_ne]; omega
        have z2 : (l0.length == 0) = false := by rw [beq_eq_false_iff_ne]; omega
        have hwi := spec_l01Between.val a1 1 256
        by_cases hn : 1 ≤ a1 ∧ a1 ≤ 256
        · have hko : palOk l0 a1 = true := by rw [HOK.out]; simp [hl0, hn.1, hn.2]
          obtain ⟨n0, n1⟩ := hn
          rw [show (decide (1 ≤ a1) && decide (a1 ≤ 256)) = true by simp [n0, n1]] at hwi
          have HW := Aside0.mk hwi
          have hh := HH.out
          rw [hko, if_pos rfl] at hh
          replace HH := Aside0.mk hh
          have hbo : BoxesOk [l0] := by
            have h1 := HPK.out.symm
            simp only [Bool.and_eq_true, decide_eq_true_eq, List.all_eq_true] at h1
            exact ⟨fun b hb px hx => by rw [List.mem_singleton.1 hb] at hx; exact h1.2 px hx, fun b hb => by rw [List.mem_singleton.1 hb]; omega, by simp⟩
          have HBO := Aside0.mk hbo
          clear hwi hh hko hbo HOK HPK HDONE
          go_wp2_with fail
          refine (spec_PixelsOk.calls kp A0 c0 l0 true _ (Kd.C_below HR.out HB.out) HC.out HKP.out).mono ?_
          rintro e_ w_ ⟨rfl, ⟨nd, rfl⟩⟩
          go_wp2_with fail
          refine (spec_l01Between.calls a1 1 256 true _ HW.out).mono ?_
          rintro e_ w_ ⟨rfl, ⟨nd2, rfl⟩⟩
          have HO2 := Aside0.mk (Kd.S_drewN HO.out (nd + nd2))
          have HB2 := Aside0.mk (pw_below_drewN HB.out (nd + nd2))
          clear HO HB
          (try rw [World.drewN_drewN])
          generalize w1.drewN (nd + nd2) = w2 at HO2 HB2 ⊢
          go_upto_block 0 with (first | ((with_reducible refine gate_dst (N := 35) rfl ?_); refine Kd.N_lit (w0 := w) dBox w.heap.size 36 ?hg (N' := 35) ?hd (xs := [l0]) (inner := [.slice A0 l0.length c0]) (ok := (fun k => True ∧ some k ≠ (v5 : Value).ownBlock)) (okp := fun k => k < w.heap.size) ?hr (boxes_start HR.out HC.out HB2.out) (fun k hk => ⟨trivial, (s_not HO2.out).1 k hk⟩) ⟨trivial, (s_not HO2.out).2 _ (Nat.le_refl _)⟩ HB2.out HB2.out.size (by simp) ?_; (case hd => rfl); (case hg => rfl); (case hr => first | (go_simp; done) | (go_simp; rfl)); intro v6 w3 ho hb hg_ hnew_; have HN := Aside0.mk ho; have HB3 := Aside0.mk hb; have HO3 := Aside0.mk (Kd.S_grown HO2.out hg_ (fun _ _ => by simp)); clear ho hb hg_ hnew_))
          go_cut [6] (fun v6 wx => PalEnd w a1 l0 v5 v6 wx)
          case first =>
            go_wp2_with fail
            go_loopg [6] (a1.toNat) (fun kq v6 w' => PalRel w a1 l0 v5 kq v6 w')
            case atStart => exact ⟨[l0], a1.toNat, HN, HBO, ⟨rfl⟩, HO3, HB3, by simp; omega, by simp, by simp; omega⟩
            case round =>
              clear HN HO3 HB3 HO2 HB2
              obtain ⟨bs, f, HN, HBO, HG, HO, HB, hfu, hb1, rfl⟩ := hrel
              obtain ⟨g, cap, e6, hgb, hgl, _⟩ := Kd.N_form HN.out (by omega)
              subst e6
              by_cases hlt : (bs.length : Int) < a1
              · have hwide := pickM_range bs HBO.out.1
                obtain ⟨pb, hpb⟩ : ∃ pb, pb = pickM bs := ⟨_, rfl⟩
                rw [← hpb] at hwide
                have HPB := Aside0.mk hpb
                clear hpb
                go_wp2_with fail
                go_loopg [7, 8, 9, 10] (bs.length + 1) (fun kq v7 v8 v9 v10 w' => ∃ (i : Nat) (b m q : Int), v7 = .int .i64 b ∧ v8 = .int .i64 m ∧ v9 = .int .i64 q ∧ v10 = .int .i64 i ∧ i ≤ bs.length ∧ Aside0 (pickGo (bs.drop i) i (b, m, q) = pb) ∧ Aside0 (Kd.N dBox 36 w' w.heap.size (fun k => True ∧ some k ≠ (v5 : Value).ownBlock) (.slice (some ⟨g, 0, none⟩) bs.length cap) bs) ∧ Aside0 (Kd.S (Kd.slice 3 (Kd.int .i64)) 22 w' w.heap.size (fun _ => True) v5 []) ∧ Aside0 (Below w.heap.size w w') ∧ kq = bs.length - i + 1)
                case atStart => exact ⟨0, -1, 0, 0, rfl, rfl, rfl, rfl, by omega, ⟨by rw [HPB.out]; rfl⟩, HN, HO, HB, rfl⟩
                case round =>
                  clear HN HO HB
                  obtain ⟨i, b, m, q, rfl, rfl, rfl, rfl, hi, HP, HN, HO, HB, rfl⟩ := hrel
                  by_cases hli : i < bs.length
                  · obtain ⟨c, hcl, hFK, hcc, hfr⟩ := Kd.N_elem HN.out [] (i : Int) (by omega) (by omega)
                    obtain ⟨Ab, cb, rfl, hcb, hF⟩ := Kd.FK_slice_open hFK
                    have hx := hcc 0 _ rfl
                    rw [show dBox.sz = 1 from rfl, Int.toNat_natCast, Nat.mul_one, Nat.add_zero] at hx
                    rw [Int.toNat_natCast] at hcb hF
                    obtain ⟨box, hbox⟩ : ∃ box, box = bs.getD i [] := ⟨_, rfl⟩
                    rw [← hbox] at hx hcb hF
                    have hbm : box ∈ bs := by rw [hbox, List.getD_eq_getElem?_getD, List.getElem?_eq_getElem hli]; exact List.getElem_mem hli
                    have hbl := HBO.out.2.1 box hbm
                    obtain ⟨kw, hkw⟩ := (spec_l21Wide.ev box (HBO.out.1 box hbm) (by omega)).rounds
                    have hdr : bs.drop i = box :: bs.drop (i + 1) := by rw [List.drop_eq_getElem_cons hli, hbox, List.getD_eq_getElem?_getD, List.getElem?_eq_getElem hli]; rfl
                    have hp := HP.out
                    rw [hdr] at hp
                    simp only [pickGo] at hp
                    obtain ⟨d1, hd1⟩ : ∃ d1, d1 = (wideM box).1 := ⟨_, rfl⟩
                    obtain ⟨d2, hd2⟩ : ∃ d2, d2 = (wideM box).2 := ⟨_, rfl⟩
                    rw [← hd1, ← hd2] at hp
                    have HKW := Aside0.mk (show spec_l21Wide.f kw box = some (d1, d2) by rw [hkw, hd1, hd2])
                    have HP2 := Aside0.mk hp
                    have HCB := Aside0.mk hcb
                    have HFC := Aside0.mk (Kd.F_now hF)
                    clear hcl hFK hcc hfr hcb hF hbox hbm hkw hdr hp hd1 hd2 hbl
                    by_cases hd : d1 > m
                    · have hdd : decide (m < d1) = true := decide_eq_true hd
                      have hp := HP2.out
                      rw [if_pos hd] at hp
                      have HP3 := Aside0.mk hp
                      clear hp hd
                      go_wp2_with fail
                      refine (spec_l21Wide.calls kw Ab cb box d1 d2 _ HFC.out HCB.out HKW.out).mono ?_
                      rintro e_ w_ ⟨rfl, ⟨nd3, rfl⟩⟩
                      go_wp2
                      go_roundg (bs.length - (i + 1) + 1)
                      case rel => exact ⟨i + 1, i, d1, d2, rfl, rfl, rfl, by go_num, by omega, ⟨by rw [← HP3.out]; congr 1⟩, ⟨Kd.N_drewN HN.out _⟩, ⟨Kd.S_drewN HO.out _⟩, ⟨pw_below_drewN HB.out _⟩, rfl⟩
                      case measure => simp; omega
                    · have hdd : decide (m < d1) = false := decide_eq_false (by omega)
                      have hp := HP2.out
                      rw [if_neg hd] at hp
                      have HP3 := Aside0.mk hp
                      clear hp hd
                      go_wp2_with fail
                      refine (spec_l21Wide.calls kw Ab cb box d1 d2 _ HFC.out HCB.out HKW.out).mono ?_
                      rintro e_ w_ ⟨rfl, ⟨nd3, rfl⟩⟩
                      go_wp2
                      go_roundg (bs.length - (i + 1) + 1)
                      case rel => exact ⟨i + 1, b, m, q, rfl, rfl, rfl, by go_num, by omega, ⟨by rw [← HP3.out]; congr 1⟩, ⟨Kd.N_drewN HN.out _⟩, ⟨Kd.S_drewN HO.out _⟩, ⟨pw_below_drewN HB.out _⟩, rfl⟩
                      case measure => simp; omega
                  · obtain rfl : i = bs.length := by omega
                    have hp := HP.out
                    rw [List.drop_length] at hp
                    simp only [pickGo] at hp
                    subst hp
                    simp only [] at hwide
                    by_cases hb0 : b < 0
                    · have hbd : decide (b < 0) = true := decide_eq_true hb0
                      have hpn : partM bs = none := by unfold partM; rw [← HPB.out, if_pos hb0]
                      have HPN := Aside0.mk hpn
                      clear hpn hb0
                      go_wp2_with fail
                      go_meet
                      case rel => exact ⟨bs, HN, HBO, ⟨by rw [← HG.out]; exact palGo_stop _ _ _ (.inr HPN.out)⟩, HO, HB⟩
                    · have hbd : decide (b < 0) = false := decide_eq_false hb0
                      obtain ⟨nb, rfl⟩ : ∃ nb : Nat, b = nb := ⟨b.toNat, by omega⟩
                      have hnb : nb < bs.length := by omega
                      have hw2 := pickM_wide bs HBO.out.1 (by rw [← HPB.out]; simp only []; omega)
                      rw [← HPB.out] at hw2
                      simp only [Int.toNat_natCast] at hw2
                      obtain ⟨c, hcl, hFK, hcc, hfr⟩ := Kd.N_elem HN.out [] (nb : Int) (by omega) (by omega)
                      obtain ⟨Ab, cb, rfl, hcb, hF⟩ := Kd.FK_slice_open hFK
                      have hx := hcc 0 _ rfl
                      have hfz := hfr 0
                      rw [show dBox.sz = 1 from rfl, Int.toNat_natCast, Nat.mul_one, Nat.add_zero] at hx hfz
                      rw [Int.toNat_natCast] at hcb hF
                      obtain ⟨box, hbox⟩ : ∃ box, box = bs.getD nb [] := ⟨_, rfl⟩
                      have HBX := Aside0.mk hbox
                      rw [← hbox] at hx hcb hF hw2
                      have hbm : box ∈ bs := by rw [hbox, List.getD_eq_getElem?_getD, List.getElem?_eq_getElem hnb]; exact List.getElem_mem hnb
                      have hbl := HBO.out.2.1 box hbm
                      obtain ⟨ks, hks⟩ := (spec_l21Sort.ev box (HBO.out.1 box hbm) (by omega) q (by omega) (by omega)).rounds
                      have hsl := sortM_length box (HBO.out.1 box hbm) q (by omega) (by omega)
                      obtain ⟨s, hs⟩ : ∃ s, s = sortM box q := ⟨_, rfl⟩
                      rw [← hs] at hks hsl
                      have HSS := Aside0.mk hs
                      have HKS := Aside0.mk hks
                      have HV := Aside0.mk (show Kd.V (Kd.slice 3 (Kd.int .i64)) 22 wr wr.heap.size (fun k => k ≠ g ∧ some k ≠ (v5 : Value).ownBlock) (.slice Ab box.length cb) box from Kd.V_mk hcb (Kd.F_mono hF (fun k hk => ⟨hk.2, hk.1.2⟩)))
                      have hs2 : 2 ≤ s.length ∧ s.length ≤ 4096 := by omega
                      have hgw : g < wr.heap.size := Kd.N_lt HN.out g rfl
                      have HV5 := Aside0.mk (s_not HO.out).2
                      clear hcl hFK hcc hfr hcb hF hbox hbm hks hs hbl hsl hw2
                      go_wp2_with fail
                      refine (spec_l21Sort.calls ks (fun k => k ≠ g ∧ some k ≠ (v5 : Value).ownBlock) Ab cb box q s _ HV.out HKS.out).mono ?_
                      rintro e_ w4 ⟨v13, rfl, hs4, hb4⟩
                      obtain ⟨As, cs, es⟩ := Kd.N_slice hs4
                      subst es
                      have HS4 := Aside0.mk hs4
                      have HN4 := Aside0.mk (Kd.N_below HN.out hb4)
                      have HO4 := Aside0.mk (Kd.S_below HO.out hb4)
                      have HB4 := Aside0.mk (Below.trans HB.out (hb4.mono HB.out.size))
                      have hxc := hb4.cell (World.block_lt_of_cell? wr _ hx)
                      have hx4 := hxc.trans hx
                      have hfz4 := (hb4.frozen (World.block_lt_of_cell? wr _ hx)).trans hfz
                      clear hs4 hb4 hx hfz hxc HN HO HB
                      have hcs := (Kd.N_reads' HS4.out).2.1
                      have hne : cs ≠ s.length / 2 := by omega
                      have hh1 : s.length / 2 ≤ cs := by omega
                      have hh2 : s.length / 2 ≤ s.length := by omega
                      obtain ⟨cells2, hblk2⟩ := Kd.N_typed HN4.out g rfl
                      have HBK := Aside0.mk hblk2
                      have HF4 := Aside0.mk (Kd.F_mono (ok' := (fun k => k ≠ g ∧ some k ≠ (v5 : Value).ownBlock)) (Kd.N_F HS4.out) (fun k hk => by rcases hk with h | h; exact h; exact ⟨by omega, HV5.out k h⟩))
                      have hsg : Aside0 (Kd.N dBox 36 (w4.setCell ⟨g, nb, none⟩ (.slice As (s.length / 2) cs)) w.heap.size (fun k => True ∧ some k ≠ (v5 : Value).ownBlock) (.slice (some ⟨g, 0, none⟩) bs.length cap) (bs.set nb (s.take (s.length / 2))) ∧ w4.grownBy (w4.setCell ⟨g, nb, none⟩ (.slice As (s.length / 2) cs)) (some g)) := by
                        obtain ⟨c, hcl, _, hcc, _⟩ := Kd.N_elem HN4.out [] (nb : Int) (by omega) (by omega)
                        obtain ⟨u, rfl⟩ := List.length_eq_one_iff.1 hcl
                        have hft := Kd.FK_slice_mk (e := 22) (c := cs) (by rw [List.length_take]; omega) (Kd.F_take HF4.out hh2)
                        have hl3 : (s.take (s.length / 2)).length = s.length / 2 := by rw [List.length_take]; omega
                        rw [hl3] at hft
                        have := Kd.N_seg HN4.out (nb : Int) (by omega) (by omega) (seg := [.slice As (s.length / 2) cs]) (j := 0) hcl hcc (by show 0 + 1 ≤ 1; omega) (x' := s.take (s.length / 2)) (okp := (fun k => k ≠ g ∧ some k ≠ (v5 : Value).ownBlock)) (by simpa using hft) (fun k hk => ⟨⟨trivial, hk.2⟩, hk.1⟩)
                        rw [show dBox.sz = 1 from rfl, Int.toNat_natCast, Nat.mul_one, Nat.add_zero] at this
                        exact ⟨this⟩
                      clear hblk2
                      go_upto_region 20 with (fail)
                      have HO5 := Aside0.mk (Kd.S_mono (ok' := fun k => k ≠ g) (Kd.S_far (p := ⟨g, nb, none⟩) (Kd.S_types HO4.out HBK.out (by decide)) (fun k hk => hk.2) (.slice As (s.length / 2) cs)) (fun k hk => hk.2))
                      have HN5 := Aside0.mk hsg.out.1
                      have HF5 := Aside0.mk (Kd.F_grown HF4.out hsg.out.2 (fun k hk => by simpa using hk.1))
                      have HB5 := Aside0.mk (below_set HB4.out hgb (j := nb) (v := .slice As (s.length / 2) cs))
                      generalize w4.setCell ⟨g, nb, none⟩ (.slice As (s.length / 2) cs) = w5 at HO5 HN5 HF5 HB5 ⊢
                      clear hsg HF4 HO4 HN4 HB4 HS4 HBK hx4 hfz4
                      have hfk : Kd.FK dBox w5 (fun k => k ≠ g ∧ some k ≠ (v5 : Value).ownBlock) (s.drop (s.length / 2)) [.slice (As.map (·.add (s.length / 2))) (s.length - s.length / 2) (cs - s.length / 2)] := by
                        have h1 := Kd.F_cut HF5.out hh2 hcs
                        rw [if_neg hne, show (Kd.slice 3 (Kd.int .i64)).sz = 1 from rfl, Nat.mul_one] at h1
                        have h2 := Kd.FK_slice_mk (e := 22) (c := cs - s.length / 2) (by rw [List.length_drop]; omega) h1
                        rw [List.length_drop] at h2
                        exact h2
                      have HFK := Aside0.mk hfk
                      have HV6 := Aside0.mk (s_not HO5.out).2
                      clear hfk
                      go_wp2_with (first | ((with_reducible refine gate_builtin (b := .append) (xs := #[.tmp 76, .tmp 82]) rfl ?_); at_builtin; go_loud (refine Kd.N_append dBox (w0 := w) w.heap.size rfl (.tmp 76) (.tmp 82) 126 36 (.slice none 0 0) 24 rfl Try.underlying126 info36 rfl (by decide) (by omega) (.slice (some ⟨g, 0, none⟩) bs.length cap) (bs.set nb (s.take (s.length / 2))) (s.drop (s.length / 2)) [.slice (As.map (·.add (s.length / 2))) (s.length - s.length / 2) (cs - s.length / 2)] (fun k => True ∧ some k ≠ (v5 : Value).ownBlock) (fun k => k ≠ g ∧ some k ≠ (v5 : Value).ownBlock) rfl rfl HFK.out (fun k hk => ⟨⟨trivial, hk.2⟩, by simpa [Value.ownBlock] using hk.1⟩) (fun k hk => ⟨trivial, HV6.out k hk⟩) HN5.out HB5.out HB5.out.size (by rw [List.length_set]; omega) ?_; intro v83 w6 ho hb hg hat); have HN6 := Aside0.mk ho; have HB6 := Aside0.mk hb; have HO6 := Aside0.mk (Kd.S_mono (ok' := fun _ => True) (Kd.S_grown HO5.out hg (fun k hk => by simpa [Value.ownBlock] using hk)) (fun _ _ => trivial)); clear ho hb hg hat))
                      go_roundg (a1.toNat - (bs.length + 1) + 1)
                      case rel =>
                        obtain ⟨f', rfl⟩ : ∃ f', f = f' + 1 := ⟨f - 1, by omega⟩
                        have hpm : partM bs = some (bs.set nb (s.take (s.length / 2)) ++ [s.drop (s.length / 2)]) := by
                          unfold partM
                          rw [← HPB.out]
                          simp only [Int.toNat_natCast]
                          rw [if_neg (by omega), ← HBX.out, ← HSS.out]
                        have hpo := partM_ok HBO.out (by omega) hpm
                        refine ⟨_, f', HN6, ⟨hpo.1⟩, ⟨?_⟩, HO6, HB6, by rw [hpo.2]; omega, by rw [hpo.2]; omega, by rw [hpo.2]⟩
                        rw [← HG.out]
                        simp only [palGo]
                        rw [if_pos hlt, hpm]
                      case measure => simp; omega
              · go_wp2_with fail
                go_meet
                case rel => exact ⟨bs, HN, HBO, ⟨by rw [← HG.out]; exact palGo_stop _ _ _ (.inl (by omega))⟩, HO, HB⟩
          case rest =>
            clear HN HO3 HB3 HO2 HB2
            obtain ⟨bs, HN, HBO, HG, HO, HB⟩ := hcut
            have hrl := HH.out
            rw [HG.out] at hrl
            have HRR := Aside0.mk hrl
            obtain ⟨Ab6, cb6, e6⟩ := Kd.N_slice HN.out
            subst e6
            clear hrl
            go_wp2_with fail
            go_loopg [5, 14] (bs.length + 1) (fun kq v5 v14 w' => ∃ i : Nat, v14 = .int .i64 i ∧ i ≤ bs.length ∧ kq = bs.length - i + 1 ∧ Aside0 (Kd.S (Kd.slice 3 (Kd.int .i64)) 22 w' w.heap.size (fun _ => True) v5 ((bs.take i).map meanM)) ∧ Aside0 (Kd.N dBox 36 w' w.heap.size (fun k => True ∧ some k ≠ (v5 : Value).ownBlock) (.slice Ab6 bs.length cb6) bs) ∧ Aside0 (Below w.heap.size w w'))
            case atStart => exact ⟨0, rfl, by omega, rfl, ⟨by simpa using HO.out⟩, HN, HB⟩
            case round =>
              clear HN HO HB
              obtain ⟨i, rfl, hi, rfl, HO, HN, HB⟩ := hrel
              by_cases hli : i < bs.length
              · obtain ⟨g, cap, e6, hgb, hgl, _⟩ := Kd.N_form HN.out (by omega)
                injection e6 with e6 _ e7
                subst e6
                clear e7
                obtain ⟨box, hbox⟩ : ∃ box, box = bs.getD i [] := ⟨_, rfl⟩
                have hbm : box ∈ bs := by rw [hbox, List.getD_eq_getElem?_getD, List.getElem?_eq_getElem hli]; exact List.getElem_mem hli
                have hbl := HBO.out.2.1 box hbm
                have hb256 := HBO.out.2.2
                have HPX := Aside0.mk (HBO.out.1 box hbm)
                have HTK := Aside0.mk (show (bs.take (i + 1)).map meanM = (bs.take i).map meanM ++ [meanM box] by rw [List.take_succ_eq_append_getElem hli, List.map_append, hbox, List.getD_eq_getElem?_getD, List.getElem?_eq_getElem hli]; rfl)
                have HBX := Aside0.mk hbox
                obtain ⟨Nb, hNb⟩ : ∃ Nb, Nb = wr.heap.size := ⟨_, rfl⟩
                have HSb := Aside0.mk (show Kd.S (Kd.slice 3 (Kd.int .i64)) 22 wr w.heap.size (fun k => k < Nb) u5 ((bs.take i).map meanM) from Kd.S_mono (Kd.S_bound HO.out) (fun k hk => by rw [hNb]; exact hk.2.2.1))
                have HNb := Aside0.mk (show Nb ≤ wr.heap.size by omega)
                have HNw := Aside0.mk (Kd.N_mono (ok' := fun k => (True ∧ some k ≠ (u5 : Value).ownBlock) ∧ k < Nb) (Kd.N_bound HN.out) (fun k hk => ⟨hk.1, by rw [hNb]; exact hk.2⟩))
                clear hbox hbm HO hNb
                go_wp2_with (first | ((with_reducible refine gate_dst (N := 90) rfl ?_); refine Kd.R_lit (w0 := w) (Kd.int .i64) w.heap.size 3 ?hg (N := 90) ?hd (xs := ([] : List Int)) (inner := []) (ok := fun k => Nb ≤ k) (okp := fun _ => False) ?hr ?hp (fun _ hk => hk.elim) HNb.out HB.out HB.out.size (by simp) ?_; (case hd => rfl); (case hg => rfl); (case hr => first | (go_simp; done) | (go_simp; rfl)); (case hp => exact (Reps.none _ _)); intro v15 w1 ho hb hg_ hnew_; have HP1 := Aside0.mk ho; have HB1 := Aside0.mk hb; have HS1 := Aside0.mk (Kd.S_grown HSb.out hg_ (fun _ _ => by simp)); have HN1 := Aside0.mk (Kd.N_grown HNw.out hg_ (fun _ _ => by simp)); have HNb1 := Aside0.mk (Nat.le_trans HNb.out hg_.size); clear ho hb hg_ hnew_))
                clear HB HSb HN HNb HNw
                go_loopg [15, 16] (4) (fun kq v15 v16 w' => ∃ j : Nat, v16 = .int .i64 j ∧ j ≤ 3 ∧ kq = 3 - j + 1 ∧ Aside0 (Kd.R (Kd.int .i64) 3 w' w.heap.size (fun k => Nb ≤ k) v15 ((meanM box).take j)) ∧ Aside0 (Kd.S (Kd.slice 3 (Kd.int .i64)) 22 w' w.heap.size (fun k => k < Nb) u5 ((bs.take i).map meanM)) ∧ Aside0 (Kd.N dBox 36 w' w.heap.size (fun k => (True ∧ some k ≠ (u5 : Value).ownBlock) ∧ k < Nb) (.slice (some ⟨g, 0, none⟩) bs.length cb6) bs) ∧ Aside0 (Below w.heap.size w w') ∧ Aside0 (Nb ≤ w'.heap.size))
                case atStart => exact ⟨0, rfl, by omega, rfl, HP1, HS1, HN1, HB1, HNb1⟩
                case round =>
                  clear HP1 HS1 HN1 HB1 HNb1
                  obtain ⟨j, rfl, hj, rfl, HP, HS, HN, HB, HNb⟩ := hrel
                  by_cases hlj : j < 3
                  · have hsum := sumJ_in j (by omega) (by omega) box HPX.out
                    go_wp2_with fail
                    go_loopg [17, 18] (box.length + 1) (fun kq v17 v18 w' => ∃ n : Nat, v18 = .int .i64 n ∧ n ≤ box.length ∧ v17 = .int .i64 (sumJ j (box.take n)) ∧ kq = box.length - n + 1 ∧ Aside0 (Kd.R (Kd.int .i64) 3 w' w.heap.size (fun k => Nb ≤ k) u15 ((meanM box).take j)) ∧ Aside0 (Kd.S (Kd.slice 3 (Kd.int .i64)) 22 w' w.heap.size (fun k => k < Nb) u5 ((bs.take i).map meanM)) ∧ Aside0 (Kd.N dBox 36 w' w.heap.size (fun k => (True ∧ some k ≠ (u5 : Value).ownBlock) ∧ k < Nb) (.slice (some ⟨g, 0, none⟩) bs.length cb6) bs) ∧ Aside0 (Below w.heap.size w w') ∧ Aside0 (Nb ≤ w'.heap.size))
                    case atStart => exact ⟨0, rfl, by omega, rfl, rfl, HP, HS, HN, HB, HNb⟩
                    case round =>
                      clear HP HS HN HB HNb
                      obtain ⟨n, rfl, hn, rfl, rfl, HP, HS, HN, HB, HNb⟩ := hrel
                      obtain ⟨c, hcl, hFK, hcc, hfr⟩ := Kd.N_elem HN.out [] (i : Int) (by omega) (by omega)
                      obtain ⟨Ab, cb, rfl, hcb, hF⟩ := Kd.FK_slice_open hFK
                      have hx := hcc 0 _ rfl
                      rw [show dBox.sz = 1 from rfl, Int.toNat_natCast, Nat.mul_one, Nat.add_zero] at hx
                      rw [Int.toNat_natCast] at hcb hF
                      rw [← HBX.out] at hx hcb hF
                      clear hcl hFK hcc hfr hcb
                      by_cases hln : n < box.length
                      · obtain ⟨ad, A1, c1, e1, hy, hl1, hi1⟩ := at_L3 (Kd.F_now hF) (n : Int) (by omega) (by omega)
                        cases e1
                        rw [Int.toNat_natCast] at hy
                        have hgl : rd_L3 box n = box[n] := by simp [rd_L3, hln]
                        rw [hgl] at hy hl1 hi1
                        have hpx := px_rd (HPX.out _ (List.getElem_mem hln)) j (by omega) (by omega)
                        obtain ⟨ap, e2, hz⟩ := Kd.at_int hi1 (j : Int) (by omega) (by omega)
                        cases e2
                        rw [Int.toNat_natCast] at hz
                        have hst := sumJ_take j box n hln
                        have htk := sumJ_in j (by omega) (by omega) (box.take n) (fun q hq => HPX.out q (List.mem_of_mem_take hq))
                        have htl : (box.take n).length ≤ n := by rw [List.length_take]; omega
                        obtain ⟨sm, hsm⟩ : ∃ sm, sm = sumJ j (box.take n) := ⟨_, rfl⟩
                        obtain ⟨pv, hpv⟩ : ∃ pv, pv = rd box[n] j := ⟨_, rfl⟩
                        rw [← hsm, ← hpv] at hst
                        rw [← hsm] at htk ⊢
                        rw [← hpv] at hz hpx
                        have hw1 : wrap64 (sm + pv) = sm + pv := wrap_in _ (by omega) (by omega)
                        have hpl := hpx.2.2
                        rw [hpl] at hy
                        have HST := Aside0.mk hst
                        have h3 : (3 : Nat) = 3 := rfl
                        clear hgl hl1 hi1 hst hsm hpv hF hpx h3 htk htl hpl
                        go_wp2
                        go_roundg (box.length - (n + 1) + 1)
                        case rel => exact ⟨n + 1, by go_num, by omega, by rw [HST.out, hw1], rfl, HP, HS, HN, HB, HNb⟩
                        case measure => simp; omega
                      · obtain rfl : n = box.length := by omega
                        rw [List.take_length]
                        have HRV := Aside0.mk (spec_l05Round.val (sumJ j box) box.length hsum.1 (by omega) (by omega) (by omega))
                        obtain ⟨rv, hrv⟩ : ∃ rv, rv = rndM (sumJ j box) box.length := ⟨_, rfl⟩
                        rw [← hrv] at HRV
                        have HMT := Aside0.mk (meanM_take box j hlj)
                        rw [← hrv] at HMT
                        have hml : ((meanM box).take j).length ≤ 3 := by rw [List.length_take]; omega
                        clear hrv hF
                        go_wp2_with fail
                        refine (spec_l05Round.calls (sumJ j box) box.length rv _ HRV.out).mono ?_
                        rintro e_ w_ ⟨rfl, ⟨nd5, rfl⟩⟩
                        have HP5 := Aside0.mk (Kd.R_drewN HP.out nd5)
                        have HS5 := Aside0.mk (Kd.S_drewN HS.out nd5)
                        have HN5 := Aside0.mk (Kd.N_drewN HN.out nd5)
                        have HB5 := Aside0.mk (pw_below_drewN HB.out nd5)
                        have HNb5 : Aside0 (Nb ≤ (wr.drewN nd5).heap.size) := ⟨HNb.out⟩
                        have hnn := HNb5.out
                        generalize wr.drewN nd5 = w5 at HP5 HS5 HN5 HB5 HNb5 hnn ⊢
                        clear HP HS HN HB HNb
                        go_wp2_with (first | ((with_reducible refine gate_builtin (b := .append) (xs := #[.tmp 116, .tmp 124]) rfl ?_); at_builtin; go_loud (refine Kd.R_append (Kd.int .i64) (w0 := w) w.heap.size rfl (.tmp 116) (.tmp 124) 22 3 (.int .i64 0) 8 rfl Try.underlying22 info3 rfl (by decide) (by omega) _ ((meanM box).take j) rv [.int .i64 rv] (fun k => Nb ≤ k) (fun _ => False) rfl rfl rfl (fun _ hk => hk.elim) (fun k hk => by omega) HP5.out HB5.out HB5.out.size (by omega) ?_; intro v125 w6 ho hb hg hat); have HP6 := Aside0.mk ho; have HB6 := Aside0.mk hb; have HG6 := Aside0.mk hg; clear ho hb hg hat))
                        have HPo := Aside0.mk (show ∀ k, Value.ownBlock u15 = some k → Nb ≤ k from HP5.out.1)
                        go_roundg (3 - (j + 1) + 1)
                        case rel =>
                          refine ⟨j + 1, by go_num, by omega, rfl, ⟨by rw [HMT.out]; exact HP6.out⟩, ⟨Kd.S_grown HS5.out HG6.out (fun k hk e => by have := HPo.out k e.symm; omega)⟩, ⟨Kd.N_grown HN5.out HG6.out (fun k hk e => by have := HPo.out k e.symm; have := hk.2; omega)⟩, HB6, ⟨Nat.le_trans HNb5.out HG6.out.size⟩⟩
                        case measure => simp; omega
                  · obtain rfl : j = 3 := by omega
                    have HP3 := Aside0.mk (show Kd.R (Kd.int .i64) 3 wr w.heap.size (fun k => Nb ≤ k) u15 (meanM box) from HP.out)
                    obtain ⟨A15, c15, e15⟩ := Kd.R_slice HP3.out
                    have hm3 : (meanM box).length = 3 := rfl
                    rw [hm3] at e15
                    subst e15
                    clear hm3
                    have hmo := Kd.M_row HP3.out
                    have HMO := Aside0.mk hmo
                    clear hmo HP
                    go_wp2_with (first | ((with_reducible refine gate_builtin (b := .append) (xs := #[.tmp 126, .tmp 128]) rfl ?_); at_builtin; go_loud (refine Kd.S_append (Kd.slice 3 (Kd.int .i64)) (w0 := w) w.heap.size rfl (.tmp 126) (.tmp 128) 36 22 (.slice none 0 0) 24 rfl Try.underlying36 info22 rfl (by decide) (by omega) u5 ((bs.take i).map meanM) (meanM box) [.slice A15 3 c15] (fun _ => True) (fun k => Nb ≤ k) rfl rfl HMO.out (fun k hk => ⟨trivial, fun e => by have := (Kd.S_R HS.out).1 k e.symm; omega⟩) (fun _ _ => trivial) (Kd.S_mono HS.out (fun k hk => ⟨trivial, by omega⟩)) HB.out HB.out.size (by rw [List.length_map, List.length_take]; have := HBO.out.2.2; omega) ?_; intro v129 w6 ho hb hg hat); have HO6 := Aside0.mk ho; have HB6 := Aside0.mk hb; have HG6 := Aside0.mk (Kd.N_after (Kd.N_mono (ok' := (fun k => True ∧ some k ≠ (u5 : Value).ownBlock)) HN.out (fun k hk => hk.1)) hg hat); clear ho hb hg hat))
                    go_roundg (bs.length - (i + 1) + 1)
                    case rel =>
                      refine ⟨i + 1, by go_num, by omega, rfl, ⟨by rw [HTK.out]; exact HO6.out⟩, HG6, HB6⟩
                    case measure => simp; omega
              · obtain rfl : i = bs.length := by omega
                go_wp2
                go_ret
                have := HRR.out
                rw [← this]
                exact ⟨_, rfl, by have h1 := HO.out; rwa [List.take_length] at h1, HB.out⟩
        · have hf : (decide (1 ≤ a1) && decide (a1 ≤ 256)) = false := by
            rw [Bool.eq_false_iff]; intro h; simp only [Bool.and_eq_true, decide_eq_true_eq] at h; exact hn h
          rw [hf] at hwi
          have HW := Aside0.mk hwi
          have HF := Aside0.mk hf
          clear hwi hf hn
          go_wp2_with fail
          refine (spec_PixelsOk.calls kp A0 c0 l0 true _ (Kd.C_below HR.out HB.out) HC.out HKP.out).mono ?_
          rintro e_ w_ ⟨rfl, ⟨nd, rfl⟩⟩
          go_wp2_with fail
          refine (spec_l01Between.calls a1 1 256 false _ HW.out).mono ?_
          rintro e_ w_ ⟨rfl, ⟨nd2, rfl⟩⟩
          go_wp2
          go_ret
          have := HDONE.out (by rw [HOK.out, HF.out, Bool.and_false])
          subst this
          exact ⟨_, rfl, by repeat (first | exact HO.out | refine Kd.S_drewN ?_ _), by repeat (first | exact HB.out | apply pw_below_drewN)⟩
  · cases h
theorem spec_Palette.calls (A0 : Option Addr) (c0 : Nat) (l0 : List (List Int)) (a1 : Int) (r : List (List Int)) (w : World) (hr0 : Kd.C (Kd.slice 3 (Kd.int .i64)) w A0 l0.length l0) (hc0 : l0.length ≤ c0) (h : spec_Palette.f l0 a1 = some r) :
    Calls Try.prog 52 #[.slice A0 l0.length c0, .int .i64 a1] w fun e w' => ∃ v0_ : Value, e = .returned v0_ ∧ Kd.S (Kd.slice 3 (Kd.int .i64)) 22 w' w.heap.size (fun _ => True) v0_ r ∧ Below w.heap.size w w' :=
  (spec_Palette.callsS A0 c0 l0 a1 r w hr0 hc0 h).mono fun _ _ ⟨v, he, hs, hb⟩ => ⟨v, he, ( hs), hb⟩
end Go.Proofs.Ytcjjmfpkhhdmlaa.G

namespace Go.Proofs.Ytcjjmfpkhhdmlaa.G
open Go.RowKit Go.Proofs.YtcjjmfpkhhdmlaaW.PrintWords Go.Proofs.YtcjjmfpkhhdmlaaW.PrintLast Go.Proofs.YtcjjmfpkhhdmlaaW.PrintMore
attribute [local go_sem] max2_int min2_int max_two min_two max_three min_three max_four min_four   -- for this text's walks alone
/-! ### impl_below: function 152 -/
def impl_below.f (a0 : Int) (a1 : Int) : Option (Int) := if a0 < 0 then (if a1 = 0 then (none) else (some (wrap64 (-(wrap64 (Int.tdiv (wrap64 ((wrap64 ((wrap64 (-a0)) + a1)) - 1)) a1)))))) else (if a1 = 0 then (none) else (some (wrap64 (Int.tdiv a0 a1))))
set_option maxHeartbeats 8000000 in
set_option maxRecDepth 100000 in
theorem impl_below.calls (a0 : Int) (a1 : Int) (r : Int) (w : World) (h : impl_below.f a0 a1 = some r) :
    Calls Try.prog 152 #[.int .i64 a0, .int .i64 a1] w fun e w' => e = .returned (.int .i64 r) ∧ Drawn0 w w' := by
  have H : (if a0 < 0 then (if a1 = 0 then (none) else (some (wrap64 (-(wrap64 (Int.tdiv (wrap64 ((wrap64 ((wrap64 (-a0)) + a1)) - 1)) a1)))))) else (if a1 = 0 then (none) else (some (wrap64 (Int.tdiv a0 a1))))) = some r := h
  clear h
  by_cases c3 : a0 < 0
  · rw [if_pos c3] at H
    have c3b0 : decide (a0 < 0) = true := decide_eq_true c3
    clear c3
    by_cases c4 : a1 = 0
    · rw [if_pos c4] at H
      exact absurd H (by simp)
    · rw [if_neg c4] at H
      have c4b0 : (a1 == 0) = false := beq_eq_false_iff_ne.mpr c4
      have c4b1 : (a1 != 0) = true := bne_iff_ne.mpr c4
      obtain rfl := Option.some.inj H
      go_enter Try.func152, Try.ntmps152
      go_wp2
      go_ret
      exact ⟨by first | rfl | (simp; done) | (simp [*]; done), by repeat (first | exact Drawn0.refl _ | apply Drawn0.step)⟩
  · rw [if_neg c3] at H
    have c3b0 : decide (a0 < 0) = false := decide_eq_false c3
    clear c3
    by_cases c5 : a1 = 0
    · rw [if_pos c5] at H
      exact absurd H (by simp)
    · rw [if_neg c5] at H
      have c5b0 : (a1 == 0) = false := beq_eq_false_iff_ne.mpr c5
      have c5b1 : (a1 != 0) = true := bne_iff_ne.mpr c5
      obtain rfl := Option.some.inj H
      go_enter Try.func152, Try.ntmps152
      go_wp2
      go_ret
      exact ⟨by first | rfl | (simp; done) | (simp [*]; done), by repeat (first | exact Drawn0.refl _ | apply Drawn0.step)⟩
end Go.Proofs.Ytcjjmfpkhhdmlaa.G

namespace Go.Proofs.Ytcjjmfpkhhdmlaa.G
open Go.RowKit Go.Proofs.YtcjjmfpkhhdmlaaW.PrintWords Go.Proofs.YtcjjmfpkhhdmlaaW.PrintLast Go.Proofs.YtcjjmfpkhhdmlaaW.PrintMore
attribute [local go_sem] max2_int min2_int max_two min_two max_three min_three max_four min_four   -- for this text's walks alone
/-! ### impl_rounded: function 110 -/
def impl_rounded.f (a0 : Int) (a1 : Int) : Option (Int) := (impl_below.f (wrap64 ((wrap64 (2 * a0)) + a1)) (wrap64 (2 * a1))).bind fun t379 => (some t379)
set_option maxHeartbeats 8000000 in
set_option maxRecDepth 100000 in
theorem impl_rounded.calls (a0 : Int) (a1 : Int) (r : Int) (w : World) (h : impl_rounded.f a0 a1 = some r) :
    Calls Try.prog 110 #[.int .i64 a0, .int .i64 a1] w fun e w' => e = .returned (.int .i64 r) ∧ Drawn0 w w' := by
  have H : ((impl_below.f (wrap64 ((wrap64 (2 * a0)) + a1)) (wrap64 (2 * a1))).bind fun t379 => (some t379)) = some r := h
  clear h
  replace H := Option.bind_eq_some_iff.mp H
  obtain ⟨t379, A30, H⟩ := H
  replace H : (some t379) = some r := H
  have A3 := Aside0.mk A30
  clear A30
  obtain rfl := Option.some.inj H
  go_enter Try.func110, Try.ntmps110
  go_wp2_with (first | ((with_reducible refine gate_callee (f := 152) rfl ?_); refine goesL_ (some 11) rfl rfl Try.func152 (by kernel_rfl) rfl #[.int .i64 (wrap64 ((wrap64 (2 * a0)) + a1)), .int .i64 (wrap64 (2 * a1))] rfl (by (try simp only [List.map_toArray, List.map_cons, List.map_nil]); first | done | rfl | (simp only [List.length_drop, List.length_take]; rfl)) ?_; (with_reducible refine (impl_below.calls (wrap64 ((wrap64 (2 * a0)) + a1)) (wrap64 (2 * a1)) t379 _ A3.out).mono ?_); rintro e w' ⟨rfl, ⟨nd, rfl⟩⟩; refine ⟨_, rfl, ?_⟩))
  go_ret
  exact ⟨by first | rfl | (simp; done) | (simp [*]; done), by repeat (first | exact Drawn0.refl _ | apply Drawn0.step)⟩
theorem impl_rounded.val (a b : Int) (h0 : 0 ≤ a) (h1 : a ≤ 2000000) (h2 : 1 ≤ b) (h3 : b ≤ 4096) : impl_rounded.f a b = some (rndM a b) := by
  have hr := rndM_in a b h0 h1 h2 h3
  unfold impl_rounded.f impl_below.f
  rw [wrap_in (2 * a) (by omega) (by omega), wrap_in (2 * a + b) (by omega) (by omega), wrap_in (2 * b) (by omega) (by omega), if_neg (by omega), if_neg (by omega), tdiv_pos _ _ (by omega)]
  unfold rndM at hr
  rw [wrap_in _ (by omega) (by omega)]
  rfl
end Go.Proofs.Ytcjjmfpkhhdmlaa.G

namespace Go.Proofs.Ytcjjmfpkhhdmlaa.G
open Go.RowKit Go.Proofs.YtcjjmfpkhhdmlaaW.PrintWords Go.Proofs.YtcjjmfpkhhdmlaaW.PrintLast Go.Proofs.YtcjjmfpkhhdmlaaW.PrintMore
attribute [local go_sem] max2_int min2_int max_two min_two max_three min_three max_four min_four   -- for this text's walks alone
/-! ### impl_spread: function 126 -/
mutual
def impl_spread.l0 : Nat → List (List Int) → Int → Int → Int → Option (Int × Int)
  | 0, _, _, _, _ => none
  | k + 1, x0, x4, x5, x11 => if x11 < 3 then (impl_spread.l1 k x0 x4 x5 x11 255 0 x11 x0 (x0.length : Int) 0) else (some (x4, x5))
def impl_spread.l1 : Nat → List (List Int) → Int → Int → Int → Int → Int → Int → List (List Int) → Int → Int → Option (Int × Int)
  | 0, _, _, _, _, _, _, _, _, _, _ => none
  | k + 1, x0, x4, x5, x6, x7, x8, x11, x14, x15, x16 => if x16 < x15 then (if 0 ≤ x16 then (if x16 < (x14.length : Int) then (if 0 ≤ x6 then (if x6 < ((rd_L3 x14 x16).length : Int) then (impl_spread.l1 k x0 x4 x5 x6 (mn x7 (rd (rd_L3 x14 x16) x6)) (mx x8 (rd (rd_L3 x14 x16) x6)) x11 x14 x15 (wrap64 (x16 + 1))) else (none)) else (none)) else (none)) else (none)) else (if (wrap64 (x8 - x7)) > x4 then (impl_spread.l0 k x0 (wrap64 (x8 - x7)) x6 (wrap64 (x11 + 1))) else (impl_spread.l0 k x0 x4 x5 (wrap64 (x11 + 1))))
end
def impl_spread.f (k : Nat) (l0 : List (List Int)) : Option (Int × Int) := impl_spread.l0 k l0 0 0 0
theorem impl_spread.mono_l : ∀ k, (∀ y0 y1 y2 y3, LeO (impl_spread.l0 k y0 y1 y2 y3) (impl_spread.l0 (k + 1) y0 y1 y2 y3)) ∧ (∀ y0 y1 y2 y3 y4 y5 y6 y7 y8 y9, LeO (impl_spread.l1 k y0 y1 y2 y3 y4 y5 y6 y7 y8 y9) (impl_spread.l1 (k + 1) y0 y1 y2 y3 y4 y5 y6 y7 y8 y9))
  | 0 => ⟨fun _ _ _ _ r h => by simp [impl_spread.l0] at h, fun _ _ _ _ _ _ _ _ _ _ r h => by simp [impl_spread.l1] at h⟩
  | k + 1 => by
    obtain ⟨ih0, ih1⟩ := impl_spread.mono_l k
    refine ⟨?_, ?_⟩
    · intro y0 y1 y2 y3
      unfold impl_spread.l0
      repeat' first
      | (with_reducible exact ih0 _ _ _ _)
      | (with_reducible exact ih1 _ _ _ _ _ _ _ _ _ _)
      | (with_reducible exact LeO.refl _)
      | (with_reducible exact LeO.none _)
      | (with_reducible refine LeO.ite ?_ ?_)
      | (with_reducible refine LeO.bind ?_ (fun _ => ?_))
      | exact ih0 _ _ _ _
      | exact ih1 _ _ _ _ _ _ _ _ _ _
      | exact LeO.none _
      | refine LeO.ite ?_ ?_
      | refine LeO.bind ?_ (fun _ => ?_)
    · intro y0 y1 y2 y3 y4 y5 y6 y7 y8 y9
      unfold impl_spread.l1
      repeat' first
      | (with_reducible exact ih0 _ _ _ _)
      | (with_reducible exact ih1 _ _ _ _ _ _ _ _ _ _)
      | (with_reducible exact LeO.refl _)
      | (with_reducible exact LeO.none _)
      | (with_reducible refine LeO.ite ?_ ?_)
      | (with_reducible refine LeO.bind ?_ (fun _ => ?_))
      | exact ih0 _ _ _ _
      | exact ih1 _ _ _ _ _ _ _ _ _ _
      | exact LeO.none _
      | refine LeO.ite ?_ ?_
      | refine LeO.bind ?_ (fun _ => ?_)
theorem impl_spread.mono : ∀ a0 k, LeO (impl_spread.f k a0) (impl_spread.f (k + 1) a0) := by
  intro a0 k
  obtain ⟨ih0, ih1⟩ := impl_spread.mono_l k
  unfold impl_spread.f
  repeat' first
      | (with_reducible exact ih0 _ _ _ _)
      | (with_reducible exact ih1 _ _ _ _ _ _ _ _ _ _)
      | (with_reducible exact LeO.refl _)
      | (with_reducible exact LeO.none _)
      | (with_reducible refine LeO.ite ?_ ?_)
      | (with_reducible refine LeO.bind ?_ (fun _ => ?_))
      | exact ih0 _ _ _ _
      | exact ih1 _ _ _ _ _ _ _ _ _ _
      | exact LeO.none _
      | refine LeO.ite ?_ ?_
      | refine LeO.bind ?_ (fun _ => ?_)
set_option maxHeartbeats 8000000 in
set_option maxRecDepth 100000 in
theorem impl_spread.calls (k : Nat) (A0 : Option Addr) (c0 : Nat) (l0 : List (List Int)) (r1 : Int) (r2 : Int) (w : World) (hr0 : Kd.C (Kd.slice 3 (Kd.int .i64)) w A0 l0.length l0) (hc0 : l0.length ≤ c0) (h : impl_spread.f k l0 = some (r1, r2)) :
    Calls Try.prog 126 #[.slice A0 l0.length c0] w fun e w' => e = .returned (.tuple #[.int .i64 r1, .int .i64 r2]) ∧ Below w.heap.size w w' := by
  have HR0 := Aside0.mk hr0
  have HC0 := Aside0.mk hc0
  clear hr0 hc0
  have HB := Aside0.mk (Below.refl w.heap.size w)
  have H : (impl_spread.l0 k l0 0 0 0) = some (r1, r2) := h
  clear h
  have H' := Aside0.mk H
  clear H
  go_enter Try.func126, Try.ntmps126
  go_wp2
  repeat (go_quiet (fail); try go_wp2)
  go_loopg [4, 5, 11] k (fun kq v4 v5 v11 w' => ∃ (x4_1 : Int) (x5_1 : Int) (x11_1 : Int), v4 = .int .i64 x4_1 ∧ v5 = .int .i64 x5_1 ∧ v11 = .int .i64 x11_1 ∧ Aside0 (impl_spread.l0 kq l0 x4_1 x5_1 x11_1 = some (r1, r2)) ∧ Aside0 (kq ≤ k) ∧ Aside0 (Below w.heap.size w w'))
  case atStart => exact ⟨(0), (0), (0), (by first | rfl | (simp; done) | (simp [*]; done)), (by first | rfl | (simp; done) | (simp [*]; done)), (by first | rfl | (simp; done) | (simp [*]; done)), H', ⟨Nat.le_refl _⟩, ⟨by repeat (first | (with_reducible first | exact HB.out | apply below_alloc | apply pw_below_drewN | apply below_drew1) | exact HB.out)⟩⟩
  case round =>
    clear H'
    try clear c1
    obtain ⟨x4_1, x5_1, x11_1, rfl, rfl, rfl, HA, HK1, HB⟩ := hrel
    cases gk with
    | zero => exact absurd HA.out (by simp [impl_spread.l0])
    | succ k1 =>
      have H := HA.out
      clear HA
      simp only [impl_spread.l0] at H
      by_cases c2 : x11_1 < 3
      · rw [if_pos c2] at H
        have c2b0 : decide (x11_1 < 3) = true := decide_eq_true c2
        clear c2
        have H' := Aside0.mk H
        clear H
        go_wp2
        repeat (go_quiet (fail); try go_wp2)
        go_loopg [7, 8, 16] k1 (fun kq v7 v8 v16 w' => ∃ (x7_2 : Int) (x8_2 : Int) (x16_2 : Int), v7 = .int .i64 x7_2 ∧ v8 = .int .i64 x8_2 ∧ v16 = .int .i64 x16_2 ∧ Aside0 (impl_spread.l1 kq l0 x4_1 x5_1 x11_1 x7_2 x8_2 x11_1 l0 (l0.length : Int) x16_2 = some (r1, r2)) ∧ Aside0 (kq ≤ k1) ∧ Aside0 (Below w.heap.size w w'))
        case atStart => exact ⟨(255), (0), (0), (by first | rfl | (simp; done) | (simp [*]; done)), (by first | rfl | (simp; done) | (simp [*]; done)), (by first | rfl | (simp; done) | (simp [*]; done)), H', ⟨Nat.le_refl _⟩, ⟨by repeat (first | (with_reducible first | exact HB.out | apply below_alloc | apply pw_below_drewN | apply below_drew1) | exact HB.out)⟩⟩
        case round =>
          clear H'
          try clear c1
          try clear c2
          try clear c2b0
          try clear p2
          obtain ⟨x7_2, x8_2, x16_2, rfl, rfl, rfl, HA, HK2, HB⟩ := hrel
          cases gk with
          | zero => exact absurd HA.out (by simp [impl_spread.l1])
          | succ k2 =>
            have H := HA.out
            clear HA
            simp only [impl_spread.l1] at H
            by_cases c3 : x16_2 < (l0.length : Int)
            · rw [if_pos c3] at H
              have c3b0 : decide (x16_2 < (l0.length : Int)) = true := decide_eq_true c3
              clear c3
              by_cases c4 : 0 ≤ x16_2
              · rw [if_pos c4] at H
                have c4b0 : decide (0 ≤ x16_2) = true := decide_eq_true c4
                clear c4
                by_cases c5 : x16_2 < (l0.length : Int)
                · rw [if_pos c5] at H
                  have c5b0 : decide (x16_2 < (l0.length : Int)) = true := decide_eq_true c5
                  clear c5
                  by_cases c6 : 0 ≤ x11_1
                  · rw [if_pos c6] at H
                    have c6b0 : decide (0 ≤ x11_1) = true := decide_eq_true c6
                    clear c6
                    by_cases c7 : x11_1 < ((rd_L3 l0 x16_2).length : Int)
                    · rw [if_pos c7] at H
                      have c7b0 : decide (x11_1 < ((rd_L3 l0 x16_2).length : Int)) = true := decide_eq_true c7
                      clear c7
                      obtain ⟨ji8, hji8⟩ : ∃ j_ : Int, (mn x7_2 (rd (rd_L3 l0 x16_2) x11_1)) = j_ := ⟨_, rfl⟩
                      replace H : (impl_spread.l1 k2 l0 x4_1 x5_1 x11_1 ji8 (mx x8_2 (rd (rd_L3 l0 x16_2) x11_1)) x11_1 l0 (l0.length : Int) (wrap64 (x16_2 + 1))) = some (r1, r2) := by first | (rw [hji8] at H; exact H) | (simp only [hji8] at H ⊢; exact H)
                      have hji8_ : (if (rd (rd_L3 l0 x16_2) x11_1) < x7_2 then (rd (rd_L3 l0 x16_2) x11_1) else x7_2) = ji8 := hji8
                      obtain ⟨ji9, hji9⟩ : ∃ j_ : Int, (mx x8_2 (rd (rd_L3 l0 x16_2) x11_1)) = j_ := ⟨_, rfl⟩
                      replace H : (impl_spread.l1 k2 l0 x4_1 x5_1 x11_1 ji8 ji9 x11_1 l0 (l0.length : Int) (wrap64 (x16_2 + 1))) = some (r1, r2) := by first | (rw [hji9] at H; exact H) | (simp only [hji9] at H ⊢; exact H)
                      have hji9_ : (if x8_2 < (rd (rd_L3 l0 x16_2) x11_1) then (rd (rd_L3 l0 x16_2) x11_1) else x8_2) = ji9 := hji9
                      have H' := Aside0.mk H
                      clear H
                      have p922 : 0 ≤ (x16_2 : Int) := of_decide_eq_true (by first | (with_reducible assumption) | assumption)
                      have q922 : x16_2 < (l0.length : Int) := of_decide_eq_true (by first | (with_reducible assumption) | assumption)
                      obtain ⟨ad922, A922_0, c922_0, e922, hx922_0, hl922_0, hi922_0⟩ := at_L3 HR0.out x16_2 p922 q922
                      cases e922
                      replace hx922_0 := (HB.out.cell (World.block_lt_of_cell? w _ hx922_0)).trans hx922_0
                      have HR922_0 := Aside0.mk hi922_0
                      have HC922_0 := Aside0.mk hl922_0
                      clear hi922_0 hl922_0
                      replace p922 := eq_true p922
                      replace q922 := eq_true q922
                      have p923 : 0 ≤ (x11_1 : Int) := of_decide_eq_true (by first | (with_reducible assumption) | assumption)
                      have q923 : x11_1 < ((rd_L3 l0 x16_2).length : Int) := of_decide_eq_true (by first | (with_reducible assumption) | assumption)
                      obtain ⟨ad923, e923, hx923_0⟩ := Kd.at_int HR922_0.out x11_1 p923 q923
                      cases e923
                      replace hx923_0 := (HB.out.cell (World.block_lt_of_cell? w _ hx923_0)).trans hx923_0
                      replace p923 := eq_true p923
                      replace q923 := eq_true q923
                      have p924 : 0 ≤ (x11_1 : Int) := of_decide_eq_true (by first | (with_reducible assumption) | assumption)
                      have q924 : x11_1 < ((rd_L3 l0 x16_2).length : Int) := of_decide_eq_true (by first | (with_reducible assumption) | assumption)
                      obtain ⟨ad924, e924, hx924_0⟩ := Kd.at_int HR922_0.out x11_1 p924 q924
                      obtain rfl : ad923 = ad924 := (by injection e924)
                      replace hx924_0 := (HB.out.cell (World.block_lt_of_cell? w _ hx924_0)).trans hx924_0
                      replace p924 := eq_true p924
                      replace q924 := eq_true q924
                      go_wp2
                      repeat (go_quiet (fail); try go_wp2)
                      go_roundg k2
                      case measure => have := HK1.out; have := HK2.out; omega
                      case rel => exact ⟨(ji8), (ji9), (wrap64 (x16_2 + 1)), (by first | rfl | (simp; done) | (simp only [← hji8] <;> (first | rfl | simp)) | (simp [*]; done)), (by first | rfl | (simp; done) | (simp only [← hji9] <;> (first | rfl | simp)) | (simp [*]; done)), (by first | rfl | (simp; done) | (simp [*]; done)), H', ⟨by have := HK1.out; have := HK2.out; omega⟩, ⟨by repeat (first | (with_reducible first | exact HB.out | apply below_alloc | apply pw_below_drewN | apply below_drew1) | exact HB.out)⟩⟩
                    · rw [if_neg c7] at H
                      exact absurd H (by simp)
                  · rw [if_neg c6] at H
                    exact absurd H (by simp)
                · rw [if_neg c5] at H
                  exact absurd H (by simp)
              · rw [if_neg c4] at H
                exact absurd H (by simp)
            · rw [if_neg c3] at H
              have c3b0 : decide (x16_2 < (l0.length : Int)) = false := decide_eq_false c3
              clear c3
              by_cases c10 : (wrap64 (x8_2 - x7_2)) > x4_1
              · rw [if_pos c10] at H
                have c10b0 : decide (x4_1 < (wrap64 (x8_2 - x7_2))) = true := decide_eq_true c10
                clear c10
                have H' := Aside0.mk H
                clear H
                go_wp2
                repeat (go_quiet (fail); try go_wp2)
                go_roundg k2
                case measure => have := HK1.out; have := HK2.out; omega
                case rel => exact ⟨(wrap64 (x8_2 - x7_2)), (x11_1), (wrap64 (x11_1 + 1)), (by first | rfl | (simp; done) | (simp [*]; done)), (by first | rfl | (simp; done) | (simp [*]; done)), (by first | rfl | (simp; done) | (simp [*]; done)), H', ⟨by have := HK1.out; have := HK2.out; omega⟩, ⟨by repeat (first | (with_reducible first | exact HB.out | apply below_alloc | apply pw_below_drewN | apply below_drew1) | exact HB.out)⟩⟩
              · rw [if_neg c10] at H
                have c10b0 : decide (x4_1 < (wrap64 (x8_2 - x7_2))) = false := decide_eq_false c10
                clear c10
                have H' := Aside0.mk H
                clear H
                go_wp2
                repeat (go_quiet (fail); try go_wp2)
                go_roundg k2
                case measure => have := HK1.out; have := HK2.out; omega
                case rel => exact ⟨(x4_1), (x5_1), (wrap64 (x11_1 + 1)), (by first | rfl | (simp; done) | (simp [*]; done)), (by first | rfl | (simp; done) | (simp [*]; done)), (by first | rfl | (simp; done) | (simp [*]; done)), H', ⟨by have := HK1.out; have := HK2.out; omega⟩, ⟨by repeat (first | (with_reducible first | exact HB.out | apply below_alloc | apply pw_below_drewN | apply below_drew1) | exact HB.out)⟩⟩
      · rw [if_neg c2] at H
        have c2b0 : decide (x11_1 < 3) = false := decide_eq_false c2
        clear c2
        simp only [Option.some.injEq, Prod.mk.injEq] at H
        obtain ⟨rfl, rfl⟩ := H
        go_wp2
        repeat (go_quiet (fail); try go_wp2)
        go_ret2
        exact ⟨by first | rfl | (simp [errW_none, errW_some] <;> rfl) | (simp [*, errW_none, errW_some] <;> rfl), by repeat (first | (with_reducible first | exact HB.out | apply below_alloc | apply pw_below_drewN | apply below_drew1) | exact HB.out)⟩
theorem impl_spread.ev (box : List (List Int)) (hp : ∀ px ∈ box, isPx px = true) (hl : box.length ≤ 1048576) : Ev (fun k => impl_spread.f k box) (wideM box) := by
  unfold impl_spread.f
  have inner : ∀ (j : Nat) (s : Int × Int) (R : Int × Int), j ≤ 2 → Ev (fun k => impl_spread.l0 k box (wideStep box j s).1 (wideStep box j s).2 ((j + 1 : Nat) : Int)) R →
      ∀ d i : Nat, ∀ lo hi : Int, box.length - i = d → i ≤ box.length → lowJ j (box.drop i) lo = lowJ j box 255 → highJ j (box.drop i) hi = highJ j box 0 → Ev (fun k => impl_spread.l1 k box s.1 s.2 (j : Int) lo hi (j : Int) box (box.length : Int) (i : Int)) R := by
    intro j s R hj hn d
    have a1 := lowJ_in j (by omega) (by omega) box hp 255 (by omega) (by omega)
    have a2 := highJ_in j (by omega) (by omega) box hp 0 (by omega) (by omega)
    induction d with
    | zero =>
      intro i lo hi hd hi' h1 h2
      rw [List.drop_of_length_le (by omega)] at h1 h2
      simp only [lowJ, highJ] at h1 h2
      refine Ev.step (fun _ => by rw [impl_spread.l1]) (Ev.ng (by omega) ?_)
      rw [h1, h2, wrap_in _ (by omega) (by omega), wrap_succ j (by omega)]
      unfold wideStep at hn
      by_cases hc : diffJ box j > s.1
      · rw [if_pos hc] at hn; exact Ev.ip hc hn
      · rw [if_neg hc] at hn; exact Ev.ng hc hn
    | succ d ih =>
      intro i lo hi hd hi' h1 h2
      have hlt : i < box.length := by omega
      have hx := px_rd (hp _ (List.getElem_mem hlt)) j (by omega) (by omega)
      rw [List.drop_eq_getElem_cons hlt] at h1 h2
      simp only [lowJ, highJ] at h1 h2
      have e : rd_L3 box (i : Int) = box[i] := by simp [rd_L3, hlt]
      refine Ev.step (fun _ => by rw [impl_spread.l1]) (Ev.ip (by omega) (Ev.ip (by omega) (Ev.ip (by omega) ?_)))
      rw [e, wrap_succ i (by omega)]
      refine Ev.ip (by omega) (Ev.ip (by omega) ?_)
      exact ih (i + 1) _ _ (by omega) (by omega) h1 h2
  have outer : ∀ (j : Nat) (s : Int × Int) (R : Int × Int), j ≤ 2 → Ev (fun k => impl_spread.l0 k box (wideStep box j s).1 (wideStep box j s).2 ((j + 1 : Nat) : Int)) R → Ev (fun k => impl_spread.l0 k box s.1 s.2 (j : Int)) R :=
    by
      intro j s R hj hn
      refine Ev.step (fun _ => by rw [impl_spread.l0]) (Ev.ip (by omega) ?_)
      have h := inner j s R hj hn _ 0 255 0 rfl (by omega) (by simp) (by simp)
      exact h
  have last : Ev (fun k => impl_spread.l0 k box (wideM box).1 (wideM box).2 ((2 + 1 : Nat) : Int)) (wideM box) := by
    refine Ev.step (fun _ => by rw [impl_spread.l0]) ?_
    refine Ev.ng (by decide) ?_
    exact Ev.now _
  have := outer 0 (0, 0) _ (by omega) (outer 1 _ _ (by omega) (outer 2 _ _ (by omega) last))
  exact this
end Go.Proofs.Ytcjjmfpkhhdmlaa.G

namespace Go.Proofs.Ytcjjmfpkhhdmlaa.G
open Go.RowKit Go.Proofs.YtcjjmfpkhhdmlaaW.PrintWords Go.Proofs.YtcjjmfpkhhdmlaaW.PrintLast Go.Proofs.YtcjjmfpkhhdmlaaW.PrintMore
attribute [local go_sem] max2_int min2_int max_two min_two max_three min_three max_four min_four   -- for this text's walks alone
/-! ### impl_within: function 81 -/
def impl_within.f (a0 : Int) (a1 : Int) (a2 : Int) : Option (Bool) := if a0 ≥ a1 then (some (decide (a0 ≤ a2))) else (some false)
set_option maxHeartbeats 8000000 in
set_option maxRecDepth 100000 in
theorem impl_within.calls (a0 : Int) (a1 : Int) (a2 : Int) (r : Bool) (w : World) (h : impl_within.f a0 a1 a2 = some r) :
    Calls Try.prog 81 #[.int .i64 a0, .int .i64 a1, .int .i64 a2] w fun e w' => e = .returned (.bool r) ∧ Drawn0 w w' := by
  have H : (if a0 ≥ a1 then (some (decide (a0 ≤ a2))) else (some false)) = some r := h
  clear h
  by_cases c4 : a0 ≥ a1
  · rw [if_pos c4] at H
    have c4b0 : decide (a1 ≤ a0) = true := decide_eq_true c4
    clear c4
    obtain rfl := Option.some.inj H
    go_enter Try.func81, Try.ntmps81
    go_wp2
    go_ret
    exact ⟨by first | rfl | (simp; done) | (simp [*]; done), by repeat (first | exact Drawn0.refl _ | apply Drawn0.step)⟩
  · rw [if_neg c4] at H
    have c4b0 : decide (a1 ≤ a0) = false := decide_eq_false c4
    clear c4
    obtain rfl := Option.some.inj H
    go_enter Try.func81, Try.ntmps81
    go_wp2
    go_ret
    exact ⟨by first | rfl | (simp; done) | (simp [*]; done), by repeat (first | exact Drawn0.refl _ | apply Drawn0.step)⟩
theorem impl_within.val (x lo hi : Int) : impl_within.f x lo hi = some (decide (lo ≤ x) && decide (x ≤ hi)) := by
  unfold impl_within.f
  by_cases h1 : x ≥ lo
  · rw [if_pos h1]; simp [ge_iff_le.mp h1]
  · rw [if_neg h1]; have : ¬ lo ≤ x := h1; simp [this]
end Go.Proofs.Ytcjjmfpkhhdmlaa.G

namespace Go.Proofs.Ytcjjmfpkhhdmlaa.G
open Go.RowKit Go.Proofs.YtcjjmfpkhhdmlaaW.PrintWords Go.Proofs.YtcjjmfpkhhdmlaaW.PrintLast Go.Proofs.YtcjjmfpkhhdmlaaW.PrintMore
attribute [local go_sem] max2_int min2_int max_two min_two max_three min_three max_four min_four   -- for this text's walks alone
/-! ### impl_allWithin: function 94 -/
def impl_allWithin.l0 : Nat → Int → Int → List Int → Int → Int → Option (Bool)
  | 0, _, _, _, _, _ => none
  | k + 1, x1, x2, x9, x10, x11 => if x11 < x10 then (if 0 ≤ x11 then (if x11 < (x9.length : Int) then ((impl_within.f (rd x9 x11) x1 x2).bind fun t131 => (if t131 = true then (impl_allWithin.l0 k x1 x2 x9 x10 (wrap64 (x11 + 1))) else (some false))) else (none)) else (none)) else (some true)
def impl_allWithin.f (k : Nat) (l0 : List Int) (a1 : Int) (a2 : Int) : Option (Bool) := impl_allWithin.l0 k a1 a2 l0 (l0.length : Int) 0
theorem impl_allWithin.mono_l : ∀ k, (∀ y0 y1 y2 y3 y4, LeO (impl_allWithin.l0 k y0 y1 y2 y3 y4) (impl_allWithin.l0 (k + 1) y0 y1 y2 y3 y4))
  | 0 => fun _ _ _ _ _ r h => by simp [impl_allWithin.l0] at h
  | k + 1 => by
    have ih0 := impl_allWithin.mono_l k
    · intro y0 y1 y2 y3 y4
      unfold impl_allWithin.l0
      repeat' first
      | (with_reducible exact ih0 _ _ _ _ _)
      | (with_reducible exact LeO.refl _)
      | (with_reducible exact LeO.none _)
      | (with_reducible refine LeO.ite ?_ ?_)
      | (with_reducible refine LeO.bind ?_ (fun _ => ?_))
      | exact ih0 _ _ _ _ _
      | exact LeO.none _
      | refine LeO.ite ?_ ?_
      | refine LeO.bind ?_ (fun _ => ?_)
theorem impl_allWithin.mono : ∀ a0 a1 a2 k, LeO (impl_allWithin.f k a0 a1 a2) (impl_allWithin.f (k + 1) a0 a1 a2) := by
  intro a0 a1 a2 k
  have ih0 := impl_allWithin.mono_l k
  unfold impl_allWithin.f
  repeat' first
      | (with_reducible exact ih0 _ _ _ _ _)
      | (with_reducible exact LeO.refl _)
      | (with_reducible exact LeO.none _)
      | (with_reducible refine LeO.ite ?_ ?_)
      | (with_reducible refine LeO.bind ?_ (fun _ => ?_))
      | exact ih0 _ _ _ _ _
      | exact LeO.none _
      | refine LeO.ite ?_ ?_
      | refine LeO.bind ?_ (fun _ => ?_)
set_option maxHeartbeats 8000000 in
set_option maxRecDepth 100000 in
theorem impl_allWithin.calls (k : Nat) (A0 : Option Addr) (c0 : Nat) (l0 : List Int) (a1 : Int) (a2 : Int) (r : Bool) (w : World) (hr0 : Kd.C (Kd.int .i64) w A0 l0.length l0) (hc0 : l0.length ≤ c0) (h : impl_allWithin.f k l0 a1 a2 = some r) :
    Calls Try.prog 94 #[.slice A0 l0.length c0, .int .i64 a1, .int .i64 a2] w fun e w' => e = .returned (.bool r) ∧ Drawn0 w w' := by
  have HR0 := Aside0.mk hr0
  have HC0 := Aside0.mk hc0
  clear hr0 hc0
  have H : (impl_allWithin.l0 k a1 a2 l0 (l0.length : Int) 0) = some r := h
  clear h
  have H' := Aside0.mk H
  clear H
  go_enter Try.func94, Try.ntmps94
  go_wp2
  go_loopg [11] k (fun kq v11 w' => ∃ (x11_1 : Int), v11 = .int .i64 x11_1 ∧ Aside0 (impl_allWithin.l0 kq a1 a2 l0 (l0.length : Int) x11_1 = some r) ∧ Aside0 (kq ≤ k) ∧ Drawn0 w w')
  case atStart => exact ⟨(0), (by first | rfl | (simp; done) | (simp [*]; done)), H', ⟨Nat.le_refl _⟩, by repeat (first | exact Drawn0.refl _ | apply Drawn0.step)⟩
  case round =>
    clear H'
    try clear p2
    obtain ⟨x11_1, rfl, HA, HK1, ⟨m1, rfl⟩⟩ := hrel
    cases gk with
    | zero => exact absurd HA.out (by simp [impl_allWithin.l0])
    | succ k1 =>
      have H := HA.out
      clear HA
      simp only [impl_allWithin.l0] at H
      by_cases c4 : x11_1 < (l0.length : Int)
      · rw [if_pos c4] at H
        have c4b0 : decide (x11_1 < (l0.length : Int)) = true := decide_eq_true c4
        clear c4
        by_cases c5 : 0 ≤ x11_1
        · rw [if_pos c5] at H
          have c5b0 : decide (0 ≤ x11_1) = true := decide_eq_true c5
          clear c5
          by_cases c6 : x11_1 < (l0.length : Int)
          · rw [if_pos c6] at H
            have c6b0 : decide (x11_1 < (l0.length : Int)) = true := decide_eq_true c6
            clear c6
            replace H := Option.bind_eq_some_iff.mp H
            obtain ⟨t131, A70, H⟩ := H
            replace H : (if t131 = true then (impl_allWithin.l0 k1 a1 a2 l0 (l0.length : Int) (wrap64 (x11_1 + 1))) else (some false)) = some r := H
            have A7 := Aside0.mk A70
            clear A70
            by_cases c8 : t131 = true
            · subst c8
              have H1 : (impl_allWithin.l0 k1 a1 a2 l0 (l0.length : Int) (wrap64 (x11_1 + 1))) = some r := by rw [if_pos rfl] at H; exact H
              clear H
              have H := H1
              clear H1
              have H' := Aside0.mk H
              clear H
              have p130 : 0 ≤ (x11_1 : Int) := of_decide_eq_true (by first | (with_reducible assumption) | assumption)
              have q130 : x11_1 < (l0.length : Int) := of_decide_eq_true (by first | (with_reducible assumption) | assumption)
              obtain ⟨ad130, e130, hx130_0⟩ := Kd.at_int HR0.out x11_1 p130 q130
              cases e130
              replace p130 := eq_true p130
              replace q130 := eq_true q130
              go_wp2_with (first | ((with_reducible refine gate_callee (f := 81) rfl ?_); refine goesL_ (some 18) rfl rfl Try.func81 (by kernel_rfl) rfl #[.int .i64 (rd l0 x11_1), .int .i64 a1, .int .i64 a2] rfl (by (try simp only [List.map_toArray, List.map_cons, List.map_nil]); first | done | rfl | (simp only [List.length_drop, List.length_take]; rfl)) ?_; (with_reducible refine (impl_within.calls (rd l0 x11_1) a1 a2 true _ A7.out).mono ?_); rintro e w' ⟨rfl, ⟨nd, rfl⟩⟩; refine ⟨_, rfl, ?_⟩))
              go_roundg k1
              case measure => have := HK1.out; omega
              case rel => exact ⟨(wrap64 (x11_1 + 1)), (by first | rfl | (simp; done) | (simp [*]; done)), H', ⟨by have := HK1.out; omega⟩, by repeat (first | exact Drawn0.refl _ | apply Drawn0.step)⟩
            · replace c8 := Bool.eq_false_iff.mpr c8
              subst c8
              have H1 : (some false) = some r := by rw [if_neg (show ¬ (false = true) by decide)] at H; exact H
              clear H
              have H := H1
              clear H1
              obtain rfl := Option.some.inj H
              have p130 : 0 ≤ (x11_1 : Int) := of_decide_eq_true (by first | (with_reducible assumption) | assumption)
              have q130 : x11_1 < (l0.length : Int) := of_decide_eq_true (by first | (with_reducible assumption) | assumption)
              obtain ⟨ad130, e130, hx130_0⟩ := Kd.at_int HR0.out x11_1 p130 q130
              cases e130
              replace p130 := eq_true p130
              replace q130 := eq_true q130
              go_wp2_with (first | ((with_reducible refine gate_callee (f := 81) rfl ?_); refine goesL_ (some 18) rfl rfl Try.func81 (by kernel_rfl) rfl #[.int .i64 (rd l0 x11_1), .int .i64 a1, .int .i64 a2] rfl (by (try simp only [List.map_toArray, List.map_cons, List.map_nil]); first | done | rfl | (simp only [List.length_drop, List.length_take]; rfl)) ?_; (with_reducible refine (impl_within.calls (rd l0 x11_1) a1 a2 false _ A7.out).mono ?_); rintro e w' ⟨rfl, ⟨nd, rfl⟩⟩; refine ⟨_, rfl, ?_⟩))
              go_ret
              exact ⟨by first | rfl | (simp; done) | (simp [*]; done), by repeat (first | exact Drawn0.refl _ | apply Drawn0.step)⟩
          · rw [if_neg c6] at H
            exact absurd H (by simp)
        · rw [if_neg c5] at H
          exact absurd H (by simp)
      · rw [if_neg c4] at H
        have c4b0 : decide (x11_1 < (l0.length : Int)) = false := decide_eq_false c4
        clear c4
        obtain rfl := Option.some.inj H
        go_wp2
        go_ret
        exact ⟨by first | rfl | (simp; done) | (simp [*]; done), by repeat (first | exact Drawn0.refl _ | apply Drawn0.step)⟩
theorem impl_allWithin.go (lo hi : Int) (l : List Int) (hm : l.length < 4611686018427387904) (d : Nat) : ∀ (i : Nat) (k : Nat), l.length - i = d → i ≤ l.length → d < k →
    impl_allWithin.l0 k lo hi l (l.length : Int) (i : Int) = some (allW lo hi (l.drop i)) := by
  induction d with
  | zero =>
    intro i k hd hi' hk
    obtain ⟨k, rfl⟩ : ∃ m, k = m + 1 := ⟨k - 1, by omega⟩
    obtain rfl : i = l.length := by omega
    simp only [impl_allWithin.l0]
    rw [if_neg (by omega)]
    simp [allW]
  | succ d ih =>
    intro i k hd hi' hk
    obtain ⟨k, rfl⟩ : ∃ m, k = m + 1 := ⟨k - 1, by omega⟩
    have hlt : i < l.length := by omega
    simp only [impl_allWithin.l0]
    rw [if_pos (by omega), if_pos (by omega), if_pos (by omega)]
    have hrd : rd l (i : Int) = l[i] := by simp [rd, hlt]
    have hda : allW lo hi (l.drop i) = (decide (lo ≤ l[i]) && decide (l[i] ≤ hi) && allW lo hi (l.drop (i + 1))) := by
      unfold allW; rw [List.drop_eq_getElem_cons hlt, List.all_cons]
    have hw : wrap64 ((i : Int) + 1) = ((i + 1 : Nat) : Int) := by unfold wrap64; omega
    rw [hda, hrd, hw, ih (i + 1) k (by omega) (by omega) (by omega)]
    unfold impl_within.f
    by_cases h1 : l[i] ≥ lo
    · rw [if_pos h1]
      by_cases h2 : l[i] ≤ hi
      · simp [h2, ge_iff_le.mp h1]
      · simp [h2]
    · rw [if_neg h1]
      have : ¬ lo ≤ l[i] := h1
      simp [this]
theorem impl_allWithin.ev (lo hi : Int) (l : List Int) (hm : l.length < 4611686018427387904) : ∃ k, impl_allWithin.f k l lo hi = some (allW lo hi l) :=
  ⟨l.length + 1, by unfold impl_allWithin.f; exact impl_allWithin.go lo hi l hm l.length 0 _ (by omega) (by omega) (by omega)⟩
end Go.Proofs.Ytcjjmfpkhhdmlaa.G

namespace Go.Proofs.Ytcjjmfpkhhdmlaa.G
open Go.RowKit Go.Proofs.YtcjjmfpkhhdmlaaW.PrintWords Go.Proofs.YtcjjmfpkhhdmlaaW.PrintLast Go.Proofs.YtcjjmfpkhhdmlaaW.PrintMore
attribute [local go_sem] max2_int min2_int max_two min_two max_three min_three max_four min_four   -- for this text's walks alone
/-! ### impl_isColour: function 115 -/
def impl_isColour.f (k : Nat) (l0 : List Int) : Option (Bool) := if (l0.length : Int) = 3 then ((impl_allWithin.f k l0 0 255).bind fun t376 => (some t376)) else (some false)
theorem impl_isColour.mono : ∀ a0 k, LeO (impl_isColour.f k a0) (impl_isColour.f (k + 1) a0) := by
  intro a0 k
  unfold impl_isColour.f
  repeat' first
      | (with_reducible exact impl_allWithin.mono _ _ _ _)
      | (with_reducible exact LeO.refl _)
      | (with_reducible exact LeO.none _)
      | (with_reducible refine LeO.ite ?_ ?_)
      | (with_reducible refine LeO.bind ?_ (fun _ => ?_))
      | exact impl_allWithin.mono _ _ _ _
      | exact LeO.none _
      | refine LeO.ite ?_ ?_
      | refine LeO.bind ?_ (fun _ => ?_)
set_option maxHeartbeats 8000000 in
set_option maxRecDepth 100000 in
theorem impl_isColour.calls (k : Nat) (A0 : Option Addr) (c0 : Nat) (l0 : List Int) (r : Bool) (w : World) (hr0 : Kd.C (Kd.int .i64) w A0 l0.length l0) (hc0 : l0.length ≤ c0) (h : impl_isColour.f k l0 = some r) :
    Calls Try.prog 115 #[.slice A0 l0.length c0] w fun e w' => e = .returned (.bool r) ∧ Drawn0 w w' := by
  have HR0 := Aside0.mk hr0
  have HC0 := Aside0.mk hc0
  clear hr0 hc0
  have H : (if (l0.length : Int) = 3 then ((impl_allWithin.f k l0 0 255).bind fun t376 => (some t376)) else (some false)) = some r := h
  clear h
  by_cases c2 : (l0.length : Int) = 3
  · rw [if_pos c2] at H
    have c2b0 : ((l0.length : Int) == 3) = true := beq_iff_eq.mpr c2
    have c2b1 : ((l0.length : Int) != 3) = false := bne_eq_false_iff_eq.mpr c2
    clear c2
    replace H := Option.bind_eq_some_iff.mp H
    obtain ⟨t376, A30, H⟩ := H
    replace H : (some t376) = some r := H
    have A3 := Aside0.mk A30
    clear A30
    obtain rfl := Option.some.inj H
    go_enter Try.func115, Try.ntmps115
    go_wp2_with (first | (go_at_call 94; (with_reducible refine (impl_allWithin.calls k _ _ l0 0 255 t376 _ ?side1 ?side2 A3.out).mono ?_); (case side1 => repeat (first | exact HR0.out | (with_reducible refine Kd.C_alloc ?_ _) | (with_reducible refine Kd.C_drewN ?_ _) | (with_reducible refine Kd.C_drew ?_))); (case side2 => exact HC0.out); rintro e w' ⟨rfl, ⟨nd, rfl⟩⟩))
    go_ret
    exact ⟨by first | rfl | (simp; done) | (simp [*]; done), by repeat (first | exact Drawn0.refl _ | apply Drawn0.step)⟩
  · rw [if_neg c2] at H
    have c2b0 : ((l0.length : Int) == 3) = false := beq_eq_false_iff_ne.mpr c2
    have c2b1 : ((l0.length : Int) != 3) = true := bne_iff_ne.mpr c2
    obtain rfl := Option.some.inj H
    go_enter Try.func115, Try.ntmps115
    go_wp2
    go_ret
    exact ⟨by first | rfl | (simp; done) | (simp [*]; done), by repeat (first | exact Drawn0.refl _ | apply Drawn0.step)⟩
theorem impl_isColour.ev (px : List Int) : ∃ k, impl_isColour.f k px = some (isPx px) := by
  unfold impl_isColour.f isPx
  by_cases h : px.length = 3
  · obtain ⟨k, hk⟩ := impl_allWithin.ev 0 255 px (by omega)
    exact ⟨k, by rw [if_pos (by omega), hk]; simp [h]⟩
  · exact ⟨0, by rw [if_neg (by omega)]; simp [h]⟩
theorem impl_isColour.E (px : List Int) : Ev (fun k => impl_isColour.f k px) (isPx px) := by
  obtain ⟨k, h⟩ := impl_isColour.ev px
  exact Ev.of (fun k => impl_isColour.mono _ k) h
end Go.Proofs.Ytcjjmfpkhhdmlaa.G
