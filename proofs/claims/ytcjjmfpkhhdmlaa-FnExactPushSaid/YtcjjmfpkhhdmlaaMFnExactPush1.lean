import Derived.Test.YtcjjmfpkhhdmlaaProg
import Derived.Below
import Derived.Deep.Draws
import Derived.Deep.AppendLies
import Derived.Maps.AppendAt
import Derived.OwnWalk
import Derived.Laws.BytesArg
import Derived.Laws.MakeOwn
import Derived.Laws.OwnMore
import Derived.Deep.OwnRows
import Derived.Tactics
import Derived.Lib.ConvBytes
import Derived.Laws.Slices
import Derived.WalkKit
import Derived.KernelRfl
import Derived.RowKit3
import Derived.Deep.LoopGhost
import Derived.Deep.QuietTactic
import Derived.BigQuiet
import Derived.WideLaws
import Derived.Deep.DeepCutAuto
import Derived.Deep.CutBlock
import Derived.Deep.RegionHeld3
import Derived.Laws.Rows
import Derived.Lib.AppendStr
import Derived.ArgAppend
import Derived.Laws.IdiomCopy
import Derived.OrdersHeld
import Derived.Laws.BitsLemmas
import Derived.RowKit
import Derived.Test.YtcjjmfpkhhdmlaaWWords
import Derived.Test.YtcjjmfpkhhdmlaaWLast
import Derived.Test.YtcjjmfpkhhdmlaaWTab
import Derived.Test.YtcjjmfpkhhdmlaaWQPut
import Derived.Test.YtcjjmfpkhhdmlaaWApart
import Derived.Test.YtcjjmfpkhhdmlaaWArr
import Derived.Test.YtcjjmfpkhhdmlaaWZeros
import Derived.Test.YtcjjmfpkhhdmlaaWFoot
import Derived.Test.YtcjjmfpkhhdmlaaWKept
import Derived.Test.YtcjjmfpkhhdmlaaWShare
import Derived.Test.YtcjjmfpkhhdmlaaWN
import Derived.Test.YtcjjmfpkhhdmlaaWEqStruct
import Derived.Test.YtcjjmfpkhhdmlaaWRepsOne
import Derived.Test.YtcjjmfpkhhdmlaaWGuard
import Derived.Test.YtcjjmfpkhhdmlaaWNEv
import Derived.Test.YtcjjmfpkhhdmlaaWMore
import Derived.WalkSpells
import Derived.BigRegion
import Derived.Deep.CutRange
import Derived.Deep.RegionLaw
set_option linter.unusedVariables false
set_option linter.unusedSimpArgs false
namespace Go.Proofs.Ytcjjmfpkhhdmlaa.G
open Go.RowKit Go.Proofs.YtcjjmfpkhhdmlaaW.PrintWords Go.Proofs.YtcjjmfpkhhdmlaaW.PrintLast Go.Proofs.YtcjjmfpkhhdmlaaW.PrintMore
attribute [local go_sem] max2_int min2_int max_two min_two max_three min_three max_four min_four   -- for this text's walks alone
def errW : Option Int → Value
 | none => .nilIface
 | some c => .iface 0 (.int .i64 c)
theorem errW_none : errW none = .nilIface := rfl
theorem errW_some (c : Int) : errW (some c) = .iface 0 (.int .i64 c) := rfl
theorem info3 : (Try.prog.info? 3).map (fun i => (i.zero, i.size, i.bytes)) = some (some (.int .i64 0), 1, 8) := by kernel_rfl
theorem info4 : (Try.prog.info? 4).map (fun i => (i.zero, i.size, i.bytes)) = some (some (.bool false), 1, 1) := by kernel_rfl
theorem info5 : (Try.prog.info? 5).map (fun i => (i.zero, i.size, i.bytes)) = some (some (.int .u8 0), 1, 1) := by kernel_rfl
theorem info22 : (Try.prog.info? 22).map (fun i => (i.zero, i.size, i.bytes)) = some (some (.slice none 0 0), 1, 24) := by kernel_rfl
theorem info36 : (Try.prog.info? 36).map (fun i => (i.zero, i.size, i.bytes)) = some (some (.slice none 0 0), 1, 24) := by kernel_rfl
theorem info116 : (Try.prog.info? 116).map (fun i => (i.zero, i.size, i.bytes)) = some (some (.agg #[(.int .i64 0), (.int .i64 0), (.int .i64 0)]), 3, 24) := by kernel_rfl
theorem info124 : (Try.prog.info? 124).map (fun i => (i.zero, i.size, i.bytes)) = some (some (.agg #[(.int .i64 0), (.int .i64 0)]), 2, 16) := by kernel_rfl
theorem info131 : (Try.prog.info? 131).map (fun i => (i.zero, i.size, i.bytes)) = some (some (.agg #[(.int .i64 0), (.slice none 0 0)]), 2, 32) := by kernel_rfl
theorem info167 : (Try.prog.info? 167).map (fun i => (i.zero, i.size, i.bytes)) = some (some (.agg #[(.int .i64 0), (.slice none 0 0)]), 2, 32) := by kernel_rfl
-- the values' own types
/-! #### struct type 124 -/
structure S124 where
 f0 : Int
 f1 : Int
def z124 : S124 := ⟨(0 : Int), (0 : Int)⟩
def k124 : Kd S124 := Kd.iso (Kd.pair (Kd.int .i64) (Kd.int .i64)) (fun x : S124 => (x.f0, x.f1))
theorem k124_open {w : World} {x : S124} {cs : List Value} (h : k124.K w x cs) : cs = [.int .i64 x.f0, .int .i64 x.f1] := by
 obtain ⟨_, _, rfl, rfl, rfl⟩ := h
 exact rfl
theorem k124_openM {w : World} {base : Nat} {ok : Nat → Prop} {x : S124} {cs : List Value} (h : k124.M w base ok x cs) : cs = [.int .i64 x.f0, .int .i64 x.f1] := by
 obtain ⟨_, _, rfl, rfl, rfl⟩ := h
 exact rfl
theorem k124_mk (w : World) (x : S124)  : k124.K w x [.int .i64 x.f0, .int .i64 x.f1] := ⟨[.int .i64 x.f0], [.int .i64 x.f1], rfl, rfl, rfl⟩
theorem k124_mkM (w : World) (base : Nat) (ok : Nat → Prop) (x : S124)  : k124.M w base ok x [.int .i64 x.f0, .int .i64 x.f1] := ⟨[.int .i64 x.f0], [.int .i64 x.f1], rfl, rfl, rfl⟩
theorem k124_mkF (W : World) (ok : Nat → Prop) (x : S124) : Kd.FK k124 W ok x [.int .i64 x.f0, .int .i64 x.f1] := fun W2 _ => k124_mk W2 x
def rd_T124 (xs : List S124) (i : Int) : S124 := xs.getD i.toNat z124
theorem at_T124 {w : World} {A : Option Addr} {n : Nat} {xs : List S124} (h : Kd.C k124 w A n xs) (i : Int) (h0 : 0 ≤ i) (h1 : i < n) : ∃ ad , A = some ad ∧ w.cell? (ad.add (i.toNat * 2)) = some (.int .i64 (rd_T124 xs i).f0) ∧ w.cell? ⟨(ad.add (i.toNat * 2)).block, (ad.add (i.toNat * 2)).off + 1, none⟩ = some (.int .i64 (rd_T124 xs i).f1) := by
 obtain ⟨ad, c, e, _, hK, hc0⟩ := Kd.C_get h z124 i h0 h1
 have hc : ∀ j u, c[j]? = some u → w.cell? (ad.add (i.toNat * 2 + j)) = some u := hc0
 obtain rfl := k124_open hK
 exact ⟨ad, e, hc 0 _ rfl, by rw [← add_field _ _ 1 (by omega)]; exact hc 1 _ rfl⟩
def rd_L3 (xs : List (List Int)) (i : Int) : (List Int) := xs.getD i.toNat ([] : List Int)
theorem at_L3 {w : World} {A : Option Addr} {n : Nat} {xs : List (List Int)} (h : Kd.C (Kd.slice 3 (Kd.int .i64)) w A n xs) (i : Int) (h0 : 0 ≤ i) (h1 : i < n) : ∃ ad A0 c0, A = some ad ∧ w.cell? (ad.add i.toNat) = some (.slice A0 (rd_L3 xs i).length c0) ∧ (rd_L3 xs i).length ≤ c0 ∧ (Kd.int .i64).C w A0 (rd_L3 xs i).length (rd_L3 xs i) := by
 obtain ⟨ad, c, e, _, hK, hc0⟩ := Kd.C_get h ([] : List Int) i h0 h1
 have hc : ∀ j u, c[j]? = some u → w.cell? (ad.add (i.toNat * 1 + j)) = some u := hc0
 obtain ⟨A0, c0, rfl, l0, g0⟩ := hK
 exact ⟨ad, A0, c0, e, by have hq := hc 0 _ rfl; rwa [Nat.mul_one, Nat.add_zero] at hq, l0, g0⟩
def rd_L4 (xs : List (List (List Int))) (i : Int) : (List (List Int)) := xs.getD i.toNat ([] : List (List Int))
theorem at_L4 {w : World} {A : Option Addr} {n : Nat} {xs : List (List (List Int))} (h : Kd.C (Kd.slice 22 (Kd.slice 3 (Kd.int .i64))) w A n xs) (i : Int) (h0 : 0 ≤ i) (h1 : i < n) : ∃ ad A0 c0, A = some ad ∧ w.cell? (ad.add i.toNat) = some (.slice A0 (rd_L4 xs i).length c0) ∧ (rd_L4 xs i).length ≤ c0 ∧ (Kd.slice 3 (Kd.int .i64)).C w A0 (rd_L4 xs i).length (rd_L4 xs i) := by
 obtain ⟨ad, c, e, _, hK, hc0⟩ := Kd.C_get h ([] : List (List Int)) i h0 h1
 have hc : ∀ j u, c[j]? = some u → w.cell? (ad.add (i.toNat * 1 + j)) = some u := hc0
 obtain ⟨A0, c0, rfl, l0, g0⟩ := hK
 exact ⟨ad, A0, c0, e, by have hq := hc 0 _ rfl; rwa [Nat.mul_one, Nat.add_zero] at hq, l0, g0⟩
/-! #### struct type 167 -/
structure S167 where
 f0 : Int
 f1 : (List Int)
def z167 : S167 := ⟨(0 : Int), ([] : List Int)⟩
def k167 : Kd S167 := Kd.iso (Kd.pair (Kd.int .i64) (Kd.slice 3 (Kd.int .i64))) (fun x : S167 => (x.f0, x.f1))
theorem k167_open {w : World} {x : S167} {cs : List Value} (h : k167.K w x cs) : ∃ A1 c1, cs = [.int .i64 x.f0, .slice A1 x.f1.length c1] ∧ x.f1.length ≤ c1 ∧ (Kd.int .i64).C w A1 x.f1.length x.f1 := by
 obtain ⟨_, _, rfl, rfl, ⟨A1, c1, rfl, l1, g1⟩⟩ := h
 exact ⟨A1, c1, rfl, l1, g1⟩
theorem k167_openM {w : World} {base : Nat} {ok : Nat → Prop} {x : S167} {cs : List Value} (h : k167.M w base ok x cs) : ∃ v1, cs = [.int .i64 x.f0, v1] ∧ (Kd.int .i64).R 3 w base ok v1 x.f1 := by
 obtain ⟨_, _, rfl, rfl, ⟨v1, rfl, g1⟩⟩ := h
 exact ⟨v1, rfl, g1⟩
theorem k167_mk (w : World) (x : S167) {A1 : Option Addr} {c1 : Nat} (l1 : x.f1.length ≤ c1) (g1 : (Kd.int .i64).C w A1 x.f1.length x.f1) : k167.K w x [.int .i64 x.f0, .slice A1 x.f1.length c1] := ⟨[.int .i64 x.f0], [.slice A1 x.f1.length c1], rfl, rfl, ⟨A1, c1, rfl, l1, g1⟩⟩
theorem k167_mkM (w : World) (base : Nat) (ok : Nat → Prop) (x : S167) {v1 : Value} (g1 : (Kd.int .i64).R 3 w base ok v1 x.f1) : k167.M w base ok x [.int .i64 x.f0, v1] := ⟨[.int .i64 x.f0], [v1], rfl, rfl, ⟨v1, rfl, g1⟩⟩
theorem k167_openF {W : World} {ok : Nat → Prop} {x : S167} {cs : List Value} (h : Kd.FK k167 W ok x cs) : ∃ A1 c1, cs = [.int .i64 x.f0, .slice A1 x.f1.length c1] ∧ x.f1.length ≤ c1 ∧ Kd.F (Kd.int .i64) W ok A1 x.f1.length x.f1 := by
 obtain ⟨A1, c1, rfl, l1, _⟩ := k167_open (Kd.FK_now h)
 exact ⟨A1, c1, rfl, l1, (fun W' hW => by obtain ⟨A1_, c1_, he, l1_, g1_⟩ := k167_open (h W' hW); injection (Option.some.inj (show some (Value.slice A1 x.f1.length c1) = some (Value.slice A1_ x.f1.length c1_) from congrArg (fun l => l[1]?) he)) with ha_ _ _; rw [ha_]; exact g1_)⟩
theorem k167_mkF (W : World) (ok : Nat → Prop) (x : S167) {A1 : Option Addr} {c1 : Nat} (l1 : x.f1.length ≤ c1) (g1 : Kd.F (Kd.int .i64) W ok A1 x.f1.length x.f1) : Kd.FK k167 W ok x [.int .i64 x.f0, .slice A1 x.f1.length c1] := fun W2 hW => k167_mk W2 x l1 (g1 W2 hW)
def rd_T167 (xs : List S167) (i : Int) : S167 := xs.getD i.toNat z167
theorem at_T167 {w : World} {A : Option Addr} {n : Nat} {xs : List S167} (h : Kd.C k167 w A n xs) (i : Int) (h0 : 0 ≤ i) (h1 : i < n) : ∃ ad A1 c1, A = some ad ∧ w.cell? (ad.add (i.toNat * 2)) = some (.int .i64 (rd_T167 xs i).f0) ∧ w.cell? ⟨(ad.add (i.toNat * 2)).block, (ad.add (i.toNat * 2)).off + 1, none⟩ = some (.slice A1 (rd_T167 xs i).f1.length c1) ∧ (rd_T167 xs i).f1.length ≤ c1 ∧ (Kd.int .i64).C w A1 (rd_T167 xs i).f1.length (rd_T167 xs i).f1 := by
 obtain ⟨ad, c, e, _, hK, hc0⟩ := Kd.C_get h z167 i h0 h1
 have hc : ∀ j u, c[j]? = some u → w.cell? (ad.add (i.toNat * 2 + j)) = some u := hc0
 obtain ⟨A1, c1, rfl, l1, g1⟩ := k167_open hK
 exact ⟨ad, A1, c1, e, hc 0 _ rfl, by rw [← add_field _ _ 1 (by omega)]; exact hc 1 _ rfl, l1, g1⟩
def rd_L7 (xs : List (List S124)) (i : Int) : (List S124) := xs.getD i.toNat ([] : List S124)
theorem at_L7 {w : World} {A : Option Addr} {n : Nat} {xs : List (List S124)} (h : Kd.C (Kd.slice 124 k124) w A n xs) (i : Int) (h0 : 0 ≤ i) (h1 : i < n) : ∃ ad A0 c0, A = some ad ∧ w.cell? (ad.add i.toNat) = some (.slice A0 (rd_L7 xs i).length c0) ∧ (rd_L7 xs i).length ≤ c0 ∧ k124.C w A0 (rd_L7 xs i).length (rd_L7 xs i) := by
 obtain ⟨ad, c, e, _, hK, hc0⟩ := Kd.C_get h ([] : List S124) i h0 h1
 have hc : ∀ j u, c[j]? = some u → w.cell? (ad.add (i.toNat * 1 + j)) = some u := hc0
 obtain ⟨A0, c0, rfl, l0, g0⟩ := hK
 exact ⟨ad, A0, c0, e, by have hq := hc 0 _ rfl; rwa [Nat.mul_one, Nat.add_zero] at hq, l0, g0⟩
def rd_L8 (xs : List (List Int)) (i : Int) : (List Int) := xs.getD i.toNat ([] : List Int)
theorem at_L8 {w : World} {A : Option Addr} {n : Nat} {xs : List (List Int)} (h : Kd.C (Kd.slice 5 (Kd.int .u8)) w A n xs) (i : Int) (h0 : 0 ≤ i) (h1 : i < n) : ∃ ad A0 c0, A = some ad ∧ w.cell? (ad.add i.toNat) = some (.slice A0 (rd_L8 xs i).length c0) ∧ (rd_L8 xs i).length ≤ c0 ∧ (Kd.int .u8).C w A0 (rd_L8 xs i).length (rd_L8 xs i) := by
 obtain ⟨ad, c, e, _, hK, hc0⟩ := Kd.C_get h ([] : List Int) i h0 h1
 have hc : ∀ j u, c[j]? = some u → w.cell? (ad.add (i.toNat * 1 + j)) = some u := hc0
 obtain ⟨A0, c0, rfl, l0, g0⟩ := hK
 exact ⟨ad, A0, c0, e, by have hq := hc 0 _ rfl; rwa [Nat.mul_one, Nat.add_zero] at hq, l0, g0⟩
/-! #### struct type 131 -/
structure S131 where
 f0 : Int
 f1 : (List Int)
def z131 : S131 := ⟨(0 : Int), ([] : List Int)⟩
def k131 : Kd S131 := Kd.iso (Kd.pair (Kd.int .i64) (Kd.slice 5 (Kd.int .u8))) (fun x : S131 => (x.f0, x.f1))
theorem k131_open {w : World} {x : S131} {cs : List Value} (h : k131.K w x cs) : ∃ A1 c1, cs = [.int .i64 x.f0, .slice A1 x.f1.length c1] ∧ x.f1.length ≤ c1 ∧ (Kd.int .u8).C w A1 x.f1.length x.f1 := by
 obtain ⟨_, _, rfl, rfl, ⟨A1, c1, rfl, l1, g1⟩⟩ := h
 exact ⟨A1, c1, rfl, l1, g1⟩
theorem k131_openM {w : World} {base : Nat} {ok : Nat → Prop} {x : S131} {cs : List Value} (h : k131.M w base ok x cs) : ∃ v1, cs = [.int .i64 x.f0, v1] ∧ (Kd.int .u8).R 5 w base ok v1 x.f1 := by
 obtain ⟨_, _, rfl, rfl, ⟨v1, rfl, g1⟩⟩ := h
 exact ⟨v1, rfl, g1⟩
theorem k131_mk (w : World) (x : S131) {A1 : Option Addr} {c1 : Nat} (l1 : x.f1.length ≤ c1) (g1 : (Kd.int .u8).C w A1 x.f1.length x.f1) : k131.K w x [.int .i64 x.f0, .slice A1 x.f1.length c1] := ⟨[.int .i64 x.f0], [.slice A1 x.f1.length c1], rfl, rfl, ⟨A1, c1, rfl, l1, g1⟩⟩
theorem k131_mkM (w : World) (base : Nat) (ok : Nat → Prop) (x : S131) {v1 : Value} (g1 : (Kd.int .u8).R 5 w base ok v1 x.f1) : k131.M w base ok x [.int .i64 x.f0, v1] := ⟨[.int .i64 x.f0], [v1], rfl, rfl, ⟨v1, rfl, g1⟩⟩
theorem k131_openF {W : World} {ok : Nat → Prop} {x : S131} {cs : List Value} (h : Kd.FK k131 W ok x cs) : ∃ A1 c1, cs = [.int .i64 x.f0, .slice A1 x.f1.length c1] ∧ x.f1.length ≤ c1 ∧ Kd.F (Kd.int .u8) W ok A1 x.f1.length x.f1 := by
 obtain ⟨A1, c1, rfl, l1, _⟩ := k131_open (Kd.FK_now h)
 exact ⟨A1, c1, rfl, l1, (fun W' hW => by obtain ⟨A1_, c1_, he, l1_, g1_⟩ := k131_open (h W' hW); injection (Option.some.inj (show some (Value.slice A1 x.f1.length c1) = some (Value.slice A1_ x.f1.length c1_) from congrArg (fun l => l[1]?) he)) with ha_ _ _; rw [ha_]; exact g1_)⟩
theorem k131_mkF (W : World) (ok : Nat → Prop) (x : S131) {A1 : Option Addr} {c1 : Nat} (l1 : x.f1.length ≤ c1) (g1 : Kd.F (Kd.int .u8) W ok A1 x.f1.length x.f1) : Kd.FK k131 W ok x [.int .i64 x.f0, .slice A1 x.f1.length c1] := fun W2 hW => k131_mk W2 x l1 (g1 W2 hW)
def rd_T131 (xs : List S131) (i : Int) : S131 := xs.getD i.toNat z131
theorem at_T131 {w : World} {A : Option Addr} {n : Nat} {xs : List S131} (h : Kd.C k131 w A n xs) (i : Int) (h0 : 0 ≤ i) (h1 : i < n) : ∃ ad A1 c1, A = some ad ∧ w.cell? (ad.add (i.toNat * 2)) = some (.int .i64 (rd_T131 xs i).f0) ∧ w.cell? ⟨(ad.add (i.toNat * 2)).block, (ad.add (i.toNat * 2)).off + 1, none⟩ = some (.slice A1 (rd_T131 xs i).f1.length c1) ∧ (rd_T131 xs i).f1.length ≤ c1 ∧ (Kd.int .u8).C w A1 (rd_T131 xs i).f1.length (rd_T131 xs i).f1 := by
 obtain ⟨ad, c, e, _, hK, hc0⟩ := Kd.C_get h z131 i h0 h1
 have hc : ∀ j u, c[j]? = some u → w.cell? (ad.add (i.toNat * 2 + j)) = some u := hc0
 obtain ⟨A1, c1, rfl, l1, g1⟩ := k131_open hK
 exact ⟨ad, A1, c1, e, hc 0 _ rfl, by rw [← add_field _ _ 1 (by omega)]; exact hc 1 _ rfl, l1, g1⟩
def rd_L10 (xs : List (List S131)) (i : Int) : (List S131) := xs.getD i.toNat ([] : List S131)
theorem at_L10 {w : World} {A : Option Addr} {n : Nat} {xs : List (List S131)} (h : Kd.C (Kd.slice 131 k131) w A n xs) (i : Int) (h0 : 0 ≤ i) (h1 : i < n) : ∃ ad A0 c0, A = some ad ∧ w.cell? (ad.add i.toNat) = some (.slice A0 (rd_L10 xs i).length c0) ∧ (rd_L10 xs i).length ≤ c0 ∧ k131.C w A0 (rd_L10 xs i).length (rd_L10 xs i) := by
 obtain ⟨ad, c, e, _, hK, hc0⟩ := Kd.C_get h ([] : List S131) i h0 h1
 have hc : ∀ j u, c[j]? = some u → w.cell? (ad.add (i.toNat * 1 + j)) = some u := hc0
 obtain ⟨A0, c0, rfl, l0, g0⟩ := hK
 exact ⟨ad, A0, c0, e, by have hq := hc 0 _ rfl; rwa [Nat.mul_one, Nat.add_zero] at hq, l0, g0⟩
/-! #### struct type 65 -/
structure S65 where
 f0 : Int
 f1 : Int
def z65 : S65 := ⟨(0 : Int), (0 : Int)⟩
def k65 : Kd S65 := Kd.iso (Kd.pair (Kd.int .i64) (Kd.int .i64)) (fun x : S65 => (x.f0, x.f1))
theorem k65_open {w : World} {x : S65} {cs : List Value} (h : k65.K w x cs) : cs = [.int .i64 x.f0, .int .i64 x.f1] := by
 obtain ⟨_, _, rfl, rfl, rfl⟩ := h
 exact rfl
theorem k65_openM {w : World} {base : Nat} {ok : Nat → Prop} {x : S65} {cs : List Value} (h : k65.M w base ok x cs) : cs = [.int .i64 x.f0, .int .i64 x.f1] := by
 obtain ⟨_, _, rfl, rfl, rfl⟩ := h
 exact rfl
theorem k65_mk (w : World) (x : S65)  : k65.K w x [.int .i64 x.f0, .int .i64 x.f1] := ⟨[.int .i64 x.f0], [.int .i64 x.f1], rfl, rfl, rfl⟩
theorem k65_mkM (w : World) (base : Nat) (ok : Nat → Prop) (x : S65)  : k65.M w base ok x [.int .i64 x.f0, .int .i64 x.f1] := ⟨[.int .i64 x.f0], [.int .i64 x.f1], rfl, rfl, rfl⟩
theorem k65_mkF (W : World) (ok : Nat → Prop) (x : S65) : Kd.FK k65 W ok x [.int .i64 x.f0, .int .i64 x.f1] := fun W2 _ => k65_mk W2 x
def rd_T65 (xs : List S65) (i : Int) : S65 := xs.getD i.toNat z65
theorem at_T65 {w : World} {A : Option Addr} {n : Nat} {xs : List S65} (h : Kd.C k65 w A n xs) (i : Int) (h0 : 0 ≤ i) (h1 : i < n) : ∃ ad , A = some ad ∧ w.cell? (ad.add (i.toNat * 2)) = some (.int .i64 (rd_T65 xs i).f0) ∧ w.cell? ⟨(ad.add (i.toNat * 2)).block, (ad.add (i.toNat * 2)).off + 1, none⟩ = some (.int .i64 (rd_T65 xs i).f1) := by
 obtain ⟨ad, c, e, _, hK, hc0⟩ := Kd.C_get h z65 i h0 h1
 have hc : ∀ j u, c[j]? = some u → w.cell? (ad.add (i.toNat * 2 + j)) = some u := hc0
 obtain rfl := k65_open hK
 exact ⟨ad, e, hc 0 _ rfl, by rw [← add_field _ _ 1 (by omega)]; exact hc 1 _ rfl⟩
/-! #### struct type 71 -/
structure S71 where
 f0 : Int
 f1 : Int
def z71 : S71 := ⟨(0 : Int), (0 : Int)⟩
def k71 : Kd S71 := Kd.iso (Kd.pair (Kd.int .i64) (Kd.int .i64)) (fun x : S71 => (x.f0, x.f1))
theorem k71_open {w : World} {x : S71} {cs : List Value} (h : k71.K w x cs) : cs = [.int .i64 x.f0, .int .i64 x.f1] := by
 obtain ⟨_, _, rfl, rfl, rfl⟩ := h
 exact rfl
theorem k71_openM {w : World} {base : Nat} {ok : Nat → Prop} {x : S71} {cs : List Value} (h : k71.M w base ok x cs) : cs = [.int .i64 x.f0, .int .i64 x.f1] := by
 obtain ⟨_, _, rfl, rfl, rfl⟩ := h
 exact rfl
theorem k71_mk (w : World) (x : S71)  : k71.K w x [.int .i64 x.f0, .int .i64 x.f1] := ⟨[.int .i64 x.f0], [.int .i64 x.f1], rfl, rfl, rfl⟩
theorem k71_mkM (w : World) (base : Nat) (ok : Nat → Prop) (x : S71)  : k71.M w base ok x [.int .i64 x.f0, .int .i64 x.f1] := ⟨[.int .i64 x.f0], [.int .i64 x.f1], rfl, rfl, rfl⟩
theorem k71_mkF (W : World) (ok : Nat → Prop) (x : S71) : Kd.FK k71 W ok x [.int .i64 x.f0, .int .i64 x.f1] := fun W2 _ => k71_mk W2 x
def rd_T71 (xs : List S71) (i : Int) : S71 := xs.getD i.toNat z71
theorem at_T71 {w : World} {A : Option Addr} {n : Nat} {xs : List S71} (h : Kd.C k71 w A n xs) (i : Int) (h0 : 0 ≤ i) (h1 : i < n) : ∃ ad , A = some ad ∧ w.cell? (ad.add (i.toNat * 2)) = some (.int .i64 (rd_T71 xs i).f0) ∧ w.cell? ⟨(ad.add (i.toNat * 2)).block, (ad.add (i.toNat * 2)).off + 1, none⟩ = some (.int .i64 (rd_T71 xs i).f1) := by
 obtain ⟨ad, c, e, _, hK, hc0⟩ := Kd.C_get h z71 i h0 h1
 have hc : ∀ j u, c[j]? = some u → w.cell? (ad.add (i.toNat * 2 + j)) = some u := hc0
 obtain rfl := k71_open hK
 exact ⟨ad, e, hc 0 _ rfl, by rw [← add_field _ _ 1 (by omega)]; exact hc 1 _ rfl⟩
/-! #### struct type 73 -/
structure S73 where
 f0 : (List Int)
 f1 : Int
 f2 : Bool
 f3 : S71
def z73 : S73 := ⟨([] : List Int), (0 : Int), false, z71⟩
def k73 : Kd S73 := Kd.iso (Kd.pair (Kd.slice 5 (Kd.int .u8)) (Kd.pair (Kd.int .i64) (Kd.pair Kd.bool k71))) (fun x : S73 => (x.f0, x.f1, x.f2, x.f3))
theorem k73_open {w : World} {x : S73} {cs : List Value} (h : k73.K w x cs) : ∃ A0 c0, cs = [.slice A0 x.f0.length c0, .int .i64 x.f1, .bool x.f2, .int .i64 x.f3.f0, .int .i64 x.f3.f1] ∧ x.f0.length ≤ c0 ∧ (Kd.int .u8).C w A0 x.f0.length x.f0 := by
 obtain ⟨_, _, rfl, ⟨A0, c0, rfl, l0, g0⟩, ⟨_, _, rfl, rfl, ⟨_, _, rfl, rfl, s3⟩⟩⟩ := h
 obtain rfl := k71_open s3
 exact ⟨A0, c0, rfl, l0, g0⟩
theorem k73_openM {w : World} {base : Nat} {ok : Nat → Prop} {x : S73} {cs : List Value} (h : k73.M w base ok x cs) : ∃ v0, cs = [v0, .int .i64 x.f1, .bool x.f2, .int .i64 x.f3.f0, .int .i64 x.f3.f1] ∧ (Kd.int .u8).R 5 w base ok v0 x.f0 := by
 obtain ⟨_, _, rfl, ⟨v0, rfl, g0⟩, ⟨_, _, rfl, rfl, ⟨_, _, rfl, rfl, s3⟩⟩⟩ := h
 obtain rfl := k71_openM s3
 exact ⟨v0, rfl, g0⟩
theorem k73_mk (w : World) (x : S73) {A0 : Option Addr} {c0 : Nat} (l0 : x.f0.length ≤ c0) (g0 : (Kd.int .u8).C w A0 x.f0.length x.f0) : k73.K w x [.slice A0 x.f0.length c0, .int .i64 x.f1, .bool x.f2, .int .i64 x.f3.f0, .int .i64 x.f3.f1] := ⟨[.slice A0 x.f0.length c0], [.int .i64 x.f1, .bool x.f2, .int .i64 x.f3.f0, .int .i64 x.f3.f1], rfl, ⟨A0, c0, rfl, l0, g0⟩, ⟨[.int .i64 x.f1], [.bool x.f2, .int .i64 x.f3.f0, .int .i64 x.f3.f1], rfl, rfl, ⟨[.bool x.f2], [.int .i64 x.f3.f0, .int .i64 x.f3.f1], rfl, rfl, (k71_mk w x.f3 )⟩⟩⟩
theorem k73_mkM (w : World) (base : Nat) (ok : Nat → Prop) (x : S73) {v0 : Value} (g0 : (Kd.int .u8).R 5 w base ok v0 x.f0) : k73.M w base ok x [v0, .int .i64 x.f1, .bool x.f2, .int .i64 x.f3.f0, .int .i64 x.f3.f1] := ⟨[v0], [.int .i64 x.f1, .bool x.f2, .int .i64 x.f3.f0, .int .i64 x.f3.f1], rfl, ⟨v0, rfl, g0⟩, ⟨[.int .i64 x.f1], [.bool x.f2, .int .i64 x.f3.f0, .int .i64 x.f3.f1], rfl, rfl, ⟨[.bool x.f2], [.int .i64 x.f3.f0, .int .i64 x.f3.f1], rfl, rfl, (k71_mkM w base ok x.f3 )⟩⟩⟩
theorem k73_openF {W : World} {ok : Nat → Prop} {x : S73} {cs : List Value} (h : Kd.FK k73 W ok x cs) : ∃ A0 c0, cs = [.slice A0 x.f0.length c0, .int .i64 x.f1, .bool x.f2, .int .i64 x.f3.f0, .int .i64 x.f3.f1] ∧ x.f0.length ≤ c0 ∧ Kd.F (Kd.int .u8) W ok A0 x.f0.length x.f0 := by
 obtain ⟨A0, c0, rfl, l0, _⟩ := k73_open (Kd.FK_now h)
 exact ⟨A0, c0, rfl, l0, (fun W' hW => by obtain ⟨A0_, c0_, he, l0_, g0_⟩ := k73_open (h W' hW); injection (Option.some.inj (show some (Value.slice A0 x.f0.length c0) = some (Value.slice A0_ x.f0.length c0_) from congrArg (fun l => l[0]?) he)) with ha_ _ _; rw [ha_]; exact g0_)⟩
theorem k73_mkF (W : World) (ok : Nat → Prop) (x : S73) {A0 : Option Addr} {c0 : Nat} (l0 : x.f0.length ≤ c0) (g0 : Kd.F (Kd.int .u8) W ok A0 x.f0.length x.f0) : Kd.FK k73 W ok x [.slice A0 x.f0.length c0, .int .i64 x.f1, .bool x.f2, .int .i64 x.f3.f0, .int .i64 x.f3.f1] := fun W2 hW => k73_mk W2 x l0 (g0 W2 hW)
def rd_T73 (xs : List S73) (i : Int) : S73 := xs.getD i.toNat z73
theorem at_T73 {w : World} {A : Option Addr} {n : Nat} {xs : List S73} (h : Kd.C k73 w A n xs) (i : Int) (h0 : 0 ≤ i) (h1 : i < n) : ∃ ad A0 c0, A = some ad ∧ w.cell? (ad.add (i.toNat * 5)) = some (.slice A0 (rd_T73 xs i).f0.length c0) ∧ w.cell? ⟨(ad.add (i.toNat * 5)).block, (ad.add (i.toNat * 5)).off + 1, none⟩ = some (.int .i64 (rd_T73 xs i).f1) ∧ w.cell? ⟨(ad.add (i.toNat * 5)).block, (ad.add (i.toNat * 5)).off + 2, none⟩ = some (.bool (rd_T73 xs i).f2) ∧ w.cell? ⟨(ad.add (i.toNat * 5)).block, (ad.add (i.toNat * 5)).off + 3, none⟩ = some (.int .i64 (rd_T73 xs i).f3.f0) ∧ w.cell? ⟨(ad.add (i.toNat * 5)).block, (ad.add (i.toNat * 5)).off + 4, none⟩ = some (.int .i64 (rd_T73 xs i).f3.f1) ∧ (rd_T73 xs i).f0.length ≤ c0 ∧ (Kd.int .u8).C w A0 (rd_T73 xs i).f0.length (rd_T73 xs i).f0 := by
 obtain ⟨ad, c, e, _, hK, hc0⟩ := Kd.C_get h z73 i h0 h1
 have hc : ∀ j u, c[j]? = some u → w.cell? (ad.add (i.toNat * 5 + j)) = some u := hc0
 obtain ⟨A0, c0, rfl, l0, g0⟩ := k73_open hK
 exact ⟨ad, A0, c0, e, hc 0 _ rfl, by rw [← add_field _ _ 1 (by omega)]; exact hc 1 _ rfl, by rw [← add_field _ _ 2 (by omega)]; exact hc 2 _ rfl, by rw [← add_field _ _ 3 (by omega)]; exact hc 3 _ rfl, by rw [← add_field _ _ 4 (by omega)]; exact hc 4 _ rfl, l0, g0⟩
/-! #### struct type 77 -/
structure S77 where
 f0 : (List Int)
 f1 : Int
 f2 : Bool
 f3 : S65
def z77 : S77 := ⟨([] : List Int), (0 : Int), false, z65⟩
def k77 : Kd S77 := Kd.iso (Kd.pair (Kd.slice 5 (Kd.int .u8)) (Kd.pair (Kd.int .i64) (Kd.pair Kd.bool k65))) (fun x : S77 => (x.f0, x.f1, x.f2, x.f3))
theorem k77_open {w : World} {x : S77} {cs : List Value} (h : k77.K w x cs) : ∃ A0 c0, cs = [.slice A0 x.f0.length c0, .int .i64 x.f1, .bool x.f2, .int .i64 x.f3.f0, .int .i64 x.f3.f1] ∧ x.f0.length ≤ c0 ∧ (Kd.int .u8).C w A0 x.f0.length x.f0 := by
 obtain ⟨_, _, rfl, ⟨A0, c0, rfl, l0, g0⟩, ⟨_, _, rfl, rfl, ⟨_, _, rfl, rfl, s3⟩⟩⟩ := h
 obtain rfl := k65_open s3
 exact ⟨A0, c0, rfl, l0, g0⟩
theorem k77_openM {w : World} {base : Nat} {ok : Nat → Prop} {x : S77} {cs : List Value} (h : k77.M w base ok x cs) : ∃ v0, cs = [v0, .int .i64 x.f1, .bool x.f2, .int .i64 x.f3.f0, .int .i64 x.f3.f1] ∧ (Kd.int .u8).R 5 w base ok v0 x.f0 := by
 obtain ⟨_, _, rfl, ⟨v0, rfl, g0⟩, ⟨_, _, rfl, rfl, ⟨_, _, rfl, rfl, s3⟩⟩⟩ := h
 obtain rfl := k65_openM s3
 exact ⟨v0, rfl, g0⟩
theorem k77_mk (w : World) (x : S77) {A0 : Option Addr} {c0 : Nat} (l0 : x.f0.length ≤ c0) (g0 : (Kd.int .u8).C w A0 x.f0.length x.f0) : k77.K w x [.slice A0 x.f0.length c0, .int .i64 x.f1, .bool x.f2, .int .i64 x.f3.f0, .int .i64 x.f3.f1] := ⟨[.slice A0 x.f0.length c0], [.int .i64 x.f1, .bool x.f2, .int .i64 x.f3.f0, .int .i64 x.f3.f1], rfl, ⟨A0, c0, rfl, l0, g0⟩, ⟨[.int .i64 x.f1], [.bool x.f2, .int .i64 x.f3.f0, .int .i64 x.f3.f1], rfl, rfl, ⟨[.bool x.f2], [.int .i64 x.f3.f0, .int .i64 x.f3.f1], rfl, rfl, (k65_mk w x.f3 )⟩⟩⟩
theorem k77_mkM (w : World) (base : Nat) (ok : Nat → Prop) (x : S77) {v0 : Value} (g0 : (Kd.int .u8).R 5 w base ok v0 x.f0) : k77.M w base ok x [v0, .int .i64 x.f1, .bool x.f2, .int .i64 x.f3.f0, .int .i64 x.f3.f1] := ⟨[v0], [.int .i64 x.f1, .bool x.f2, .int .i64 x.f3.f0, .int .i64 x.f3.f1], rfl, ⟨v0, rfl, g0⟩, ⟨[.int .i64 x.f1], [.bool x.f2, .int .i64 x.f3.f0, .int .i64 x.f3.f1], rfl, rfl, ⟨[.bool x.f2], [.int .i64 x.f3.f0, .int .i64 x.f3.f1], rfl, rfl, (k65_mkM w base ok x.f3 )⟩⟩⟩
theorem k77_openF {W : World} {ok : Nat → Prop} {x : S77} {cs : List Value} (h : Kd.FK k77 W ok x cs) : ∃ A0 c0, cs = [.slice A0 x.f0.length c0, .int .i64 x.f1, .bool x.f2, .int .i64 x.f3.f0, .int .i64 x.f3.f1] ∧ x.f0.length ≤ c0 ∧ Kd.F (Kd.int .u8) W ok A0 x.f0.length x.f0 := by
 obtain ⟨A0, c0, rfl, l0, _⟩ := k77_open (Kd.FK_now h)
 exact ⟨A0, c0, rfl, l0, (fun W' hW => by obtain ⟨A0_, c0_, he, l0_, g0_⟩ := k77_open (h W' hW); injection (Option.some.inj (show some (Value.slice A0 x.f0.length c0) = some (Value.slice A0_ x.f0.length c0_) from congrArg (fun l => l[0]?) he)) with ha_ _ _; rw [ha_]; exact g0_)⟩
theorem k77_mkF (W : World) (ok : Nat → Prop) (x : S77) {A0 : Option Addr} {c0 : Nat} (l0 : x.f0.length ≤ c0) (g0 : Kd.F (Kd.int .u8) W ok A0 x.f0.length x.f0) : Kd.FK k77 W ok x [.slice A0 x.f0.length c0, .int .i64 x.f1, .bool x.f2, .int .i64 x.f3.f0, .int .i64 x.f3.f1] := fun W2 hW => k77_mk W2 x l0 (g0 W2 hW)
def rd_T77 (xs : List S77) (i : Int) : S77 := xs.getD i.toNat z77
theorem at_T77 {w : World} {A : Option Addr} {n : Nat} {xs : List S77} (h : Kd.C k77 w A n xs) (i : Int) (h0 : 0 ≤ i) (h1 : i < n) : ∃ ad A0 c0, A = some ad ∧ w.cell? (ad.add (i.toNat * 5)) = some (.slice A0 (rd_T77 xs i).f0.length c0) ∧ w.cell? ⟨(ad.add (i.toNat * 5)).block, (ad.add (i.toNat * 5)).off + 1, none⟩ = some (.int .i64 (rd_T77 xs i).f1) ∧ w.cell? ⟨(ad.add (i.toNat * 5)).block, (ad.add (i.toNat * 5)).off + 2, none⟩ = some (.bool (rd_T77 xs i).f2) ∧ w.cell? ⟨(ad.add (i.toNat * 5)).block, (ad.add (i.toNat * 5)).off + 3, none⟩ = some (.int .i64 (rd_T77 xs i).f3.f0) ∧ w.cell? ⟨(ad.add (i.toNat * 5)).block, (ad.add (i.toNat * 5)).off + 4, none⟩ = some (.int .i64 (rd_T77 xs i).f3.f1) ∧ (rd_T77 xs i).f0.length ≤ c0 ∧ (Kd.int .u8).C w A0 (rd_T77 xs i).f0.length (rd_T77 xs i).f0 := by
 obtain ⟨ad, c, e, _, hK, hc0⟩ := Kd.C_get h z77 i h0 h1
 have hc : ∀ j u, c[j]? = some u → w.cell? (ad.add (i.toNat * 5 + j)) = some u := hc0
 obtain ⟨A0, c0, rfl, l0, g0⟩ := k77_open hK
 exact ⟨ad, A0, c0, e, hc 0 _ rfl, by rw [← add_field _ _ 1 (by omega)]; exact hc 1 _ rfl, by rw [← add_field _ _ 2 (by omega)]; exact hc 2 _ rfl, by rw [← add_field _ _ 3 (by omega)]; exact hc 3 _ rfl, by rw [← add_field _ _ 4 (by omega)]; exact hc 4 _ rfl, l0, g0⟩
end Go.Proofs.Ytcjjmfpkhhdmlaa.G

namespace Go.Proofs.Ytcjjmfpkhhdmlaa.G
open Go.RowKit Go.Proofs.YtcjjmfpkhhdmlaaW.PrintWords Go.Proofs.YtcjjmfpkhhdmlaaW.PrintLast Go.Proofs.YtcjjmfpkhhdmlaaW.PrintMore
attribute [local go_sem] max2_int min2_int max_two min_two max_three min_three max_four min_four   -- for this text's walks alone
/-! ### laws_toByteS: function 17 -/
def laws_toByteS.l0 : Nat → List Int → List Int → Int → Option (List Int)
 | 0, _, _, _ => none
 | k + 1, x0, x3, x4 => if x4 < (x0.length : Int) then (if 0 ≤ x4 then (if x4 < (x3.length : Int) then (laws_toByteS.l0 k x0 (x3.set (x4 : Int).toNat (rd x0 x4)) (wrap64 (x4 + 1))) else (none)) else (none)) else (some x3)
def laws_toByteS.f (k : Nat) (l0 : List Int) : Option (List Int) := if 0 ≤ (l0.length : Int) then (if ((l0.length : Int) : Int).toNat ≤ 281474976710656 then (laws_toByteS.l0 k l0 (List.replicate ((l0.length : Int) : Int).toNat 0) 0) else (none)) else (none)
theorem laws_toByteS.mono_l : ∀ k, (∀ y0 y1 y2, LeO (laws_toByteS.l0 k y0 y1 y2) (laws_toByteS.l0 (k + 1) y0 y1 y2))
 | 0 => fun _ _ _ r h => by simp [laws_toByteS.l0] at h
 | k + 1 => by
  have ih0 := laws_toByteS.mono_l k
  ·intro y0 y1 y2
   unfold laws_toByteS.l0
   repeat' first
   | (with_reducible exact ih0 _ _ _)
   | (with_reducible exact LeO.refl _)
   | (with_reducible exact LeO.none _)
   | (with_reducible refine LeO.ite ?_ ?_)
   | (with_reducible refine LeO.bind ?_ (fun _ => ?_))
   | exact ih0 _ _ _
   | exact LeO.none _
   | refine LeO.ite ?_ ?_
   | refine LeO.bind ?_ (fun _ => ?_)
theorem laws_toByteS.mono : ∀ a0 k, LeO (laws_toByteS.f k a0) (laws_toByteS.f (k + 1) a0) := by
 intro a0 k
 have ih0 := laws_toByteS.mono_l k
 unfold laws_toByteS.f
 repeat' first
   | (with_reducible exact ih0 _ _ _)
   | (with_reducible exact LeO.refl _)
   | (with_reducible exact LeO.none _)
   | (with_reducible refine LeO.ite ?_ ?_)
   | (with_reducible refine LeO.bind ?_ (fun _ => ?_))
   | exact ih0 _ _ _
   | exact LeO.none _
   | refine LeO.ite ?_ ?_
   | refine LeO.bind ?_ (fun _ => ?_)
set_option maxHeartbeats 8000000 in
set_option maxRecDepth 100000 in
theorem laws_toByteS.calls (k : Nat) (A0 : Option Addr) (c0 : Nat) (l0 : List Int) (r : List Int) (w : World) (hr0 : Kd.C (Kd.int .u8) w A0 l0.length l0) (hc0 : l0.length ≤ c0) (h : laws_toByteS.f k l0 = some r) :
  Calls Try.prog 17 #[.slice A0 l0.length c0] w fun e w' => ∃ v0_ : Value, e = .returned (v0_) ∧ Kd.R (Kd.int .u8) 5 w' w.heap.size (fun _ => True) v0_ r ∧ Below w.heap.size w w' := by
 have HR0 := Aside0.mk hr0
 have HC0 := Aside0.mk hc0
 clear hr0 hc0
 have HB := Aside0.mk (Below.refl w.heap.size w)
 have H : (if 0 ≤ (l0.length : Int) then (if ((l0.length : Int) : Int).toNat ≤ 281474976710656 then (laws_toByteS.l0 k l0 (List.replicate ((l0.length : Int) : Int).toNat 0) 0) else (none)) else (none)) = some r := h
 clear h
 by_cases c2 : 0 ≤ (l0.length : Int)
 ·rw [if_pos c2] at H
  have c2b0 := eq_true c2
  have c2b1 : decide (0 ≤ (l0.length : Int)) = true := decide_eq_true c2
  clear c2
  by_cases c3 : ((l0.length : Int) : Int).toNat ≤ 281474976710656
  ·rw [if_pos c3] at H
   have c3b0 := eq_true c3
   have c3b1 : decide (((l0.length : Int) : Int).toNat ≤ 281474976710656) = true := decide_eq_true c3
   clear c3
   obtain ⟨y143, hy143⟩ : ∃ y_ : List Int, y_ = (List.replicate ((l0.length : Int) : Int).toNat 0) := ⟨_, rfl⟩
   replace H : (laws_toByteS.l0 k l0 y143 0) = some r := by first | (rw [hy143]; with_reducible exact H) | (have H2_ := (Option.bind_some _ _).symm.trans H; rw [hy143]; with_reducible exact H2_) | (have H2_ := (Option.bind_some _ _).symm.trans H; with_reducible exact H2_) | with_reducible exact H | (rw [hy143]; exact H) | exact H
   have Ny143 := Aside0.mk hy143
   clear hy143
   have H' := Aside0.mk H
   clear H
   go_enter Try.func17, Try.ntmps17
   go_wp2_with (first | ((with_reducible refine gate_dst (N := 7) rfl ?_); refine Kd.R_make (Kd.int .u8) _ 5 rfl (N := 7) rfl 23 _ _ rfl (l0.length : Int) rfl rfl Try.underlying23 (.int .u8 0) 1 info5 rfl (by decide) (by omega) 0 (ok := fun _ => True) (okp := fun _ => True) rfl (fun _ hk => hk) trivial (of_decide_eq_true (by first | (with_reducible assumption) | assumption)) (Nat.le_trans (Nat.mul_le_mul_right _ (of_decide_eq_true (by first | (with_reducible assumption) | assumption) : (l0.length : Int).toNat ≤ 281474976710656)) (by omega)) (Below.refl _ _) (Nat.le_refl _) ?_; intro v144 w4 ho5 hb hg_ hnew_; clear hg_ hnew_; (first | rw [← Ny143.out] at ho5 | (simp only [Int.reduceToNat] at ho5; rw [← Ny143.out] at ho5)); have n0_ := Aside0.mk (Kd.R_lower ho5 (below_size (by repeat (first | (with_reducible first | exact HB.out | apply below_alloc | apply pw_below_drewN | apply below_drew1) | exact HB.out)))); have n1_ := Aside0.mk (below_step (by repeat (first | (with_reducible first | exact HB.out | apply below_alloc | apply pw_below_drewN | apply below_drew1) | exact HB.out)) hb); clear HB; have HO145 := n0_; have HB := n1_; clear n0_ n1_; clear hb ho5))
   go_loopg [4] k (fun kq v4 w' => ∃ (x3_1 : List Int) (x4_1 : Int), v4 = .int .i64 x4_1 ∧ Aside0 (laws_toByteS.l0 kq l0 x3_1 x4_1 = some r) ∧ Aside0 (kq ≤ k) ∧ Aside0 (Kd.R (Kd.int .u8) 5 w' w.heap.size (fun _ => True) v144 x3_1) ∧ Aside0 (Below w.heap.size w w'))
   case atStart => exact ⟨(y143), (0), (by first | rfl | (simp; done) | (simp [*]; done)), H', ⟨Nat.le_refl _⟩, ⟨by (with_reducible repeat (first | apply Kd.R_alloc | apply Kd.R_drewN | apply Kd.R_drew)); exact HO145.out⟩, ⟨by repeat (first | (with_reducible first | exact HB.out | apply below_alloc | apply pw_below_drewN | apply below_drew1) | exact HB.out)⟩⟩
   case round =>
    clear H'
    try clear c1
    try clear c2
    try clear c2b0
    try clear c2b1
    try clear p2
    try clear c3
    try clear c3b0
    try clear c3b1
    obtain ⟨x3_1, x4_1, rfl, HA, HK1, HO_3, HB⟩ := hrel
    cases gk with
    | zero => exact absurd HA.out (by simp [laws_toByteS.l0])
    | succ k1 =>
     have H := HA.out
     clear HA
     simp only [laws_toByteS.l0] at H
     by_cases c6 : x4_1 < (l0.length : Int)
     ·rw [if_pos c6] at H
      have c6b0 : decide (x4_1 < (l0.length : Int)) = true := decide_eq_true c6
      clear c6
      by_cases c7 : 0 ≤ x4_1
      ·rw [if_pos c7] at H
       have c7b0 : decide (0 ≤ x4_1) = true := decide_eq_true c7
       clear c7
       by_cases c8 : x4_1 < (x3_1.length : Int)
       ·rw [if_pos c8] at H
        have c8b0 : decide (x4_1 < (x3_1.length : Int)) = true := decide_eq_true c8
        clear c8
        obtain ⟨y147, hy147⟩ : ∃ y_ : List Int, y_ = (x3_1.set (x4_1 : Int).toNat (rd l0 x4_1)) := ⟨_, rfl⟩
        replace H : (laws_toByteS.l0 k1 l0 y147 (wrap64 (x4_1 + 1))) = some r := by first | (rw [hy147]; with_reducible exact H) | (have H2_ := (Option.bind_some _ _).symm.trans H; rw [hy147]; with_reducible exact H2_) | (have H2_ := (Option.bind_some _ _).symm.trans H; with_reducible exact H2_) | with_reducible exact H | (rw [hy147]; exact H) | exact H
        have Ny147 := Aside0.mk hy147
        clear hy147
        have H' := Aside0.mk H
        clear H
        have p146 : 0 ≤ (x4_1 : Int) := of_decide_eq_true (by first | (with_reducible assumption) | assumption)
        have q146 : x4_1 < (l0.length : Int) := of_decide_eq_true (by first | (with_reducible assumption) | assumption)
        obtain ⟨ad146, e146, hx146_0⟩ := Kd.at_int HR0.out x4_1 p146 q146
        cases e146
        replace hx146_0 := (HB.out.cell (World.block_lt_of_cell? w _ hx146_0)).trans hx146_0
        replace p146 := eq_true p146
        replace q146 := eq_true q146
        have p9 : 0 ≤ (x4_1 : Int) := of_decide_eq_true (by first | (with_reducible assumption) | assumption)
        have q9 : (x4_1 : Int) < ((x3_1.length : Int) : Int) := of_decide_eq_true (by first | (with_reducible assumption) | assumption)
        obtain ⟨go9, co9, eo9, gb9, gl9, cl9, HG9⟩ := Kd.R_form HO_3.out (by omega)
        (first | cases eo9 | (injection eo9 with ea_ en_ ec_; (first | subst ea_ | (injection ea_ with ea_; subst ea_)); subst ec_; clear en_))
        have GB9 := Aside0.mk gb9
        have GG9 := Aside0.mk HG9
        clear gb9 gl9 HG9
        obtain ⟨hx9_0, hf9_0⟩ := Kd.R_celln 0 HO_3.out (x4_1 : Int) p9 q9
        replace p9 := eq_true p9
        replace q9 := eq_true q9
        have HP10 := Kd.R_putg HO_3.out (x4_1 : Int) (rd l0 x4_1)
        go_wp2_with (first | ((with_reducible refine gate_store (t := 5) (p := 20) rfl ?_); refine store_event (t := 5) (p := 20) (v := ?vo_w11) (w1 := (wr.setCell ⟨go9, (x4_1 : Int).toNat, none⟩ (.int .u8 (rd l0 x4_1)))) ?hg ?ho ?hn ?hr ?_; (case ho => rfl); (case hg => rfl); (case hn => rfl); (case hr => first | (go_simp; done) | (go_simp; rfl)); intro w11 hw; have hg : wr.grownBy w11 (some go9) := (by rw [hw]; exact HP10.2); have hp_ : Kd.R (Kd.int .u8) 5 w11 w.heap.size (fun _ => True) (.slice (some ⟨go9, 0, none⟩) x3_1.length co9) y147 := (by rw [hw, Ny147.out]; exact HP10.1); clear HP10; have n0_ := Aside0.mk (hp_); have n1_ := Aside0.mk ((by rw [hw]; exact below_set (HB.out) GB9.out : Below w.heap.size w w11)); clear HO_3; clear HB; have HO_3 := n0_; have HB := n1_; clear n0_ n1_; clear hg hw hp_))
        go_roundg k1
        case measure => have := HK1.out; omega
        case rel => exact ⟨(y147), (wrap64 (x4_1 + 1)), (by first | rfl | (simp; done) | (simp [*]; done)), H', ⟨by have := HK1.out; omega⟩, ⟨by (with_reducible repeat (first | apply Kd.R_alloc | apply Kd.R_drewN | apply Kd.R_drew)); exact HO_3.out⟩, ⟨by repeat (first | (with_reducible first | exact HB.out | apply below_alloc | apply pw_below_drewN | apply below_drew1) | exact HB.out)⟩⟩
       ·rw [if_neg c8] at H
        exact absurd H (by simp)
      ·rw [if_neg c7] at H
       exact absurd H (by simp)
     ·rw [if_neg c6] at H
      have c6b0 : decide (x4_1 < (l0.length : Int)) = false := decide_eq_false c6
      clear c6
      obtain rfl := Option.some.inj H
      go_wp2
      go_ret
      exact ⟨_, by first | rfl | (simp [errW_none, errW_some] <;> rfl) | (simp [*, errW_none, errW_some] <;> rfl), by (with_reducible repeat (first | apply Kd.R_alloc | apply Kd.R_drewN | apply Kd.R_drew)); exact HO_3.out, by repeat (first | (with_reducible first | exact HB.out | apply below_alloc | apply pw_below_drewN | apply below_drew1) | exact HB.out)⟩
  ·rw [if_neg c3] at H
   exact absurd H (by simp)
 ·rw [if_neg c2] at H
  exact absurd H (by simp)
theorem laws_toByteS.go (l : List Int) (hm : l.length ≤ 281474976710656) (d : Nat) : ∀ (i k : Nat), l.length - i = d → i ≤ l.length → d < k →
  laws_toByteS.l0 k l (l.take i ++ List.replicate (l.length - i) 0) (i : Int) = some l := by
 induction d with
 | zero =>
  intro i k hd hi' hk
  obtain ⟨k, rfl⟩ : ∃ m, k = m + 1 := ⟨k - 1, by omega⟩
  obtain rfl : i = l.length := by omega
  simp only [laws_toByteS.l0]
  rw [if_neg (by omega)]
  simp
 | succ d ih =>
  intro i k hd hi' hk
  obtain ⟨k, rfl⟩ : ∃ m, k = m + 1 := ⟨k - 1, by omega⟩
  have hlt : i < l.length := by omega
  simp only [laws_toByteS.l0]
  rw [if_pos (by omega), if_pos (by omega), if_pos (by simp; omega)]
  have hrd : rd l (i : Int) = l[i] := by simp [rd, hlt]
  have hw : wrap64 ((i : Int) + 1) = ((i + 1 : Nat) : Int) := by unfold wrap64; omega
  rw [hrd, hw]
  have hs : (l.take i ++ List.replicate (l.length - i) 0).set ((i : Int)).toNat l[i] = l.take (i + 1) ++ List.replicate (l.length - (i + 1)) 0 := by
   rw [Int.toNat_natCast, show l.length - i = (l.length - (i + 1)) + 1 by omega, List.replicate_succ, List.take_succ_eq_append_getElem hlt, List.append_assoc]
   rw [List.set_append_right _ _ (by simp; omega)]
   simp [Nat.min_eq_left (Nat.le_of_lt hlt)]
  rw [hs, ih (i + 1) k (by omega) (by omega) (by omega)]
theorem laws_toByteS.ev (l : List Int) (hm : l.length ≤ 281474976710656) : ∃ k, laws_toByteS.f k l = some l :=
 ⟨l.length + 1, by unfold laws_toByteS.f; rw [if_pos (by omega), if_pos (by omega)]; have := laws_toByteS.go l hm l.length 0 (l.length + 1) (by omega) (by omega) (by omega); simpa using this⟩
theorem laws_toByteS.E (l : List Int) (hm : l.length ≤ 1048576) : Ev (fun k => laws_toByteS.f k l) l := by
 obtain ⟨k, h⟩ := laws_toByteS.ev l (by omega)
 exact Ev.of (fun k => laws_toByteS.mono _ k) h
end Go.Proofs.Ytcjjmfpkhhdmlaa.G

namespace Go.Proofs.Ytcjjmfpkhhdmlaa.G
open Go.RowKit Go.Proofs.YtcjjmfpkhhdmlaaW.PrintWords Go.Proofs.YtcjjmfpkhhdmlaaW.PrintLast Go.Proofs.YtcjjmfpkhhdmlaaW.PrintMore
attribute [local go_sem] max2_int min2_int max_two min_two max_three min_three max_four min_four   -- for this text's walks alone
/-! what several texts use -/
theorem S_put1 {α : Type} {d : Kd α} {e g n cap base : Nat} {W w1 : World} {xs : List α} {u : Value} {x' : α} (hd : d.sz = 1) (h : Kd.S d e W base (fun _ => True) (.slice (some ⟨g, 0, none⟩) n cap) xs) (hb : Below W.heap.size W w1) (z : α) (i : Int) (h0 : 0 ≤ i) (h1 : i < n)
  (hM : d.M w1 base (fun k => W.heap.size ≤ k) x' [u]) : Kd.S d e (w1.setCell ⟨g, i.toNat, none⟩ u) base (fun _ => True) (.slice (some ⟨g, 0, none⟩) n cap) (xs.set i.toNat x') := by
 have hg : g < W.heap.size := Kd.S_lt h g rfl
 have h2 : Kd.S d e w1 base (fun k => True ∧ ¬ W.heap.size ≤ k) (.slice (some ⟨g, 0, none⟩) n cap) xs := Kd.S_mono (Kd.S_old h hb) (fun k hk => ⟨trivial, Nat.not_le.2 hk.2⟩)
 obtain ⟨oki, c, hcl, hM0, hcc, hfr, hoki, hH⟩ := Kd.S_elem h2 z i h0 h1
 obtain ⟨q, rfl⟩ := List.length_eq_one_iff.1 (hcl.trans hd)
 have := Kd.S_seg (okg := fun k => W.heap.size ≤ k) (okp := fun k => W.heap.size ≤ k) hH h0 h1 (seg := [u]) (j := 0) (by simp [hd]) (x' := x') (by
  simpa using hM) (fun k hk => .inr hk) (fun k hk => ⟨trivial, by intro he; subst he; omega⟩)
 have h3 := this.1
 rw [hd, Nat.mul_one, Nat.add_zero] at h3
 exact h3
theorem S_cell {α : Type} {d : Kd α} {e g n cap base : Nat} {W : World} {ok : Nat → Prop} {xs : List α} (hd : d.sz = 1) (h : Kd.S d e W base ok (.slice (some ⟨g, 0, none⟩) n cap) xs) (z : α) (i : Int) (h0 : 0 ≤ i) (h1 : i < n) :
  (∃ u, W.cell? ⟨g, i.toNat, none⟩ = some u) ∧ W.frozen? ⟨g, i.toNat, none⟩ = false := by
 obtain ⟨oki, c, hcl, hM0, hcc, hfr, hoki, hH⟩ := Kd.S_elem h z i h0 h1
 rw [hd] at hcc hfr hcl
 obtain ⟨u, rfl⟩ := List.length_eq_one_iff.1 hcl
 exact ⟨⟨u, by have := hcc 0 u rfl; rwa [Nat.mul_one, Nat.add_zero] at this⟩, by have := hfr 0; rwa [Nat.mul_one, Nat.add_zero] at this⟩
theorem fill_set {α : Type} (l : List α) (z : α) (i : Nat) (hi : i < l.length) : (l.take i ++ List.replicate (l.length - i) z).set i l[i] = l.take (i + 1) ++ List.replicate (l.length - (i + 1)) z := by
 rw [show l.length - i = (l.length - (i + 1)) + 1 by omega, List.replicate_succ, List.take_succ_eq_append_getElem hi, List.append_assoc]
 rw [List.set_append_right _ _ (by simp; omega)]
 simp [Nat.min_eq_left (Nat.le_of_lt hi)]
/-! rounds -/
theorem Ev.ip {α : Type} {c : Prop} [Decidable c] {g f : Nat → Option α} {r : α} (hc : c) (h : Ev g r) : Ev (fun n => if c then g n else f n) r := by
 obtain ⟨K, h⟩ := h
 exact ⟨K, fun n hn => by show (if c then g n else f n) = some r; rw [if_pos hc]; exact h n hn⟩
theorem Ev.ng {α : Type} {c : Prop} [Decidable c] {g f : Nat → Option α} {r : α} (hc : ¬ c) (h : Ev f r) : Ev (fun n => if c then g n else f n) r := by
 obtain ⟨K, h⟩ := h
 exact ⟨K, fun n hn => by show (if c then g n else f n) = some r; rw [if_neg hc]; exact h n hn⟩
theorem Ev.c {α : Type} {x : Option α} {r : α} (h : x = some r) : Ev (fun _ => x) r := ⟨0, fun _ _ => h⟩
theorem Ev.eq {α : Type} {g : Nat → Option α} {r r' : α} (h : Ev g r) (e : r = r') : Ev g r' := e ▸ h
theorem rd_nat (l : List Int) (i : Nat) (h : i < l.length) : rd l (i : Int) = l[i] := by simp [rd, h]
theorem wrap_succ (i : Nat) (h : i < 9223372036854775807) : wrap64 ((i : Int) + 1) = ((i + 1 : Nat) : Int) := by unfold wrap64; omega
theorem wrap_in (x : Int) (h1 : -9223372036854775808 ≤ x) (h2 : x ≤ 9223372036854775807) : wrap64 x = x := by unfold wrap64; omega
/-- all numbers lie between two others -/
def allW (lo hi : Int) (l : List Int) : Bool := l.all fun x => decide (lo ≤ x) && decide (x ≤ hi)
/-- a pixel -/
def isPx (px : List Int) : Bool := decide (px.length = 3) && allW 0 255 px
/-- the sum of the squares of the three differences -/
def dist (c px : List Int) : Int := (rd c 0 - rd px 0) * (rd c 0 - rd px 0) + (rd c 1 - rd px 1) * (rd c 1 - rd px 1) + (rd c 2 - rd px 2) * (rd c 2 - rd px 2)
/-- the first of the nearest colours, from one on -/
def nearGo (px : List Int) : List (List Int) → Int → Int → Int → Int
 | [], _, best, _ => best
 | c :: cs, i, best, least => if least < 0 ∨ dist c px < least then nearGo px cs (i + 1) i (dist c px) else nearGo px cs (i + 1) best least
theorem sq_bound (d : Int) (h1 : -255 ≤ d) (h2 : d ≤ 255) : 0 ≤ d * d ∧ d * d ≤ 65025 := by
 have e : d * d = ((d.natAbs * d.natAbs : Nat) : Int) := by rw [Int.natCast_mul, Int.natAbs_mul_self']
 have h3 : d.natAbs ≤ 255 := by omega
 have h4 : d.natAbs * d.natAbs ≤ 255 * 255 := Nat.mul_le_mul h3 h3
 omega
theorem isPx_three {px : List Int} (h : isPx px = true) : ∃ a b c, px = [a, b, c] ∧ 0 ≤ a ∧ a ≤ 255 ∧ 0 ≤ b ∧ b ≤ 255 ∧ 0 ≤ c ∧ c ≤ 255 := by
 unfold isPx allW at h
 rw [Bool.and_eq_true, decide_eq_true_eq, List.all_eq_true] at h
 obtain ⟨hl, ha⟩ := h
 match px, hl with
 | [a, b, c], _ =>
  have h1 := ha a (by simp)
  have h2 := ha b (by simp)
  have h3 := ha c (by simp)
  simp only [Bool.and_eq_true, decide_eq_true_eq] at h1 h2 h3
  exact ⟨a, b, c, rfl, h1.1, h1.2, h2.1, h2.2, h3.1, h3.2⟩
theorem sq_step (s a p : Int) (h0 : 0 ≤ s) (h1 : s ≤ 130050) (ha : 0 ≤ a) (ha' : a ≤ 255) (hp : 0 ≤ p) (hp' : p ≤ 255) : wrap64 (s + wrap64 (wrap64 (a - p) * wrap64 (a - p))) = s + (a - p) * (a - p) := by
 have h := sq_bound (a - p) (by omega) (by omega)
 rw [wrap_in (a - p) (by omega) (by omega), wrap_in ((a - p) * (a - p)) (by omega) (by omega), wrap_in _ (by omega) (by omega)]
theorem w64_1 : wrap64 (0 + 1) = 1 := by unfold wrap64; omega
theorem w64_2 : wrap64 (1 + 1) = 2 := by unfold wrap64; omega
theorem w64_3 : wrap64 (2 + 1) = 3 := by unfold wrap64; omega
/-- colours -/
def isCols (l : List (List Int)) : Bool := decide (1 ≤ l.length) && decide (l.length ≤ 256) && l.all isPx
theorem isCols_all {l : List (List Int)} (h : isCols l = true) : ∀ c ∈ l, isPx c = true := by
 unfold isCols at h; simp only [Bool.and_eq_true, List.all_eq_true] at h; exact h.2
theorem isCols_len {l : List (List Int)} (h : isCols l = true) : 1 ≤ l.length ∧ l.length ≤ 256 := by
 unfold isCols at h; simp only [Bool.and_eq_true, decide_eq_true_eq] at h; exact h.1
/-- numbers that rise by one -/
def rising (a : Int) : Nat → List Int
 | 0 => []
 | n + 1 => a :: rising (a + 1) n
theorem rising_length (a : Int) (n : Nat) : (rising a n).length = n := by
 induction n generalizing a with
 | zero => rfl
 | succ n ih => simp [rising, ih]
theorem rising_snoc (a : Int) (n : Nat) : rising a (n + 1) = rising a n ++ [a + n] := by
 induction n generalizing a with
 | zero => simp [rising]
 | succ n ih => rw [rising, ih]; simp [rising, Int.add_assoc, Int.add_comm 1]
theorem rising_get (a : Int) (n i : Nat) (h : i < (rising a n).length) : (rising a n)[i] = a + i := by
 induction n generalizing a i with
 | zero => simp [rising] at h
 | succ n ih =>
  cases i with
  | zero => simp [rising]
  | succ i => simp only [rising, List.getElem_cons_succ]; rw [ih]; omega
def risingB (a : Int) (n : Nat) : List Int := (rising a n).map (· % 256)
theorem risingB_length (a : Int) (n : Nat) : (risingB a n).length = n := by simp [risingB, rising_length]
theorem risingB_snoc (a : Int) (n : Nat) : risingB a (n + 1) = risingB a n ++ [(a + n) % 256] := by simp [risingB, rising_snoc]
theorem wf_u8 {x : Int} (h : (Lit.int .u8 x).wf = true) : 0 ≤ x ∧ x ≤ 255 := by
 simp only [Lit.wf, Bool.and_eq_true, decide_eq_true_eq] at h
 have h1 : IntKind.u8.min = 0 := rfl
 have h2 : IntKind.u8.max = 255 := rfl
 omega
theorem wf_i64 {x : Int} (h : (Lit.int .i64 x).wf = true) : -9223372036854775808 ≤ x ∧ x ≤ 9223372036854775807 := by
 simp only [Lit.wf, Bool.and_eq_true, decide_eq_true_eq] at h
 have h1 : IntKind.i64.min = -9223372036854775808 := rfl
 have h2 : IntKind.i64.max = 9223372036854775807 := rfl
 omega
end Go.Proofs.Ytcjjmfpkhhdmlaa.G

namespace Go.Proofs.Ytcjjmfpkhhdmlaa.G
open Go.RowKit Go.Proofs.YtcjjmfpkhhdmlaaW.PrintWords Go.Proofs.YtcjjmfpkhhdmlaaW.PrintLast Go.Proofs.YtcjjmfpkhhdmlaaW.PrintMore
attribute [local go_sem] max2_int min2_int max_two min_two max_three min_three max_four min_four   -- for this text's walks alone
/-! ### laws_eqByteS: function 20 -/
def laws_eqByteS.l0 : Nat → List Int → List Int → Int → Option (Bool)
 | 0, _, _, _ => none
 | k + 1, x0, x1, x5 => if x5 < (x0.length : Int) then (if 0 ≤ x5 then (if x5 < (x1.length : Int) then (if (rd x0 x5) = (rd x1 x5) then (laws_eqByteS.l0 k x0 x1 (wrap64 (x5 + 1))) else (some false)) else (none)) else (none)) else (some true)
def laws_eqByteS.f (k : Nat) (l0 : List Int) (l1 : List Int) : Option (Bool) := if (l0.length : Int) = (l1.length : Int) then (laws_eqByteS.l0 k l0 l1 0) else (some false)
theorem laws_eqByteS.mono_l : ∀ k, (∀ y0 y1 y2, LeO (laws_eqByteS.l0 k y0 y1 y2) (laws_eqByteS.l0 (k + 1) y0 y1 y2))
 | 0 => fun _ _ _ r h => by simp [laws_eqByteS.l0] at h
 | k + 1 => by
  have ih0 := laws_eqByteS.mono_l k
  ·intro y0 y1 y2
   unfold laws_eqByteS.l0
   repeat' first
   | (with_reducible exact ih0 _ _ _)
   | (with_reducible exact LeO.refl _)
   | (with_reducible exact LeO.none _)
   | (with_reducible refine LeO.ite ?_ ?_)
   | (with_reducible refine LeO.bind ?_ (fun _ => ?_))
   | exact ih0 _ _ _
   | exact LeO.none _
   | refine LeO.ite ?_ ?_
   | refine LeO.bind ?_ (fun _ => ?_)
theorem laws_eqByteS.mono : ∀ a0 a1 k, LeO (laws_eqByteS.f k a0 a1) (laws_eqByteS.f (k + 1) a0 a1) := by
 intro a0 a1 k
 have ih0 := laws_eqByteS.mono_l k
 unfold laws_eqByteS.f
 repeat' first
   | (with_reducible exact ih0 _ _ _)
   | (with_reducible exact LeO.refl _)
   | (with_reducible exact LeO.none _)
   | (with_reducible refine LeO.ite ?_ ?_)
   | (with_reducible refine LeO.bind ?_ (fun _ => ?_))
   | exact ih0 _ _ _
   | exact LeO.none _
   | refine LeO.ite ?_ ?_
   | refine LeO.bind ?_ (fun _ => ?_)
set_option maxHeartbeats 8000000 in
set_option maxRecDepth 100000 in
theorem laws_eqByteS.calls (k : Nat) (A0 : Option Addr) (c0 : Nat) (l0 : List Int) (A1 : Option Addr) (c1 : Nat) (l1 : List Int) (r : Bool) (w : World) (hr0 : Kd.C (Kd.int .u8) w A0 l0.length l0) (hc0 : l0.length ≤ c0) (hr1 : Kd.C (Kd.int .u8) w A1 l1.length l1) (hc1 : l1.length ≤ c1) (h : laws_eqByteS.f k l0 l1 = some r) :
  Calls Try.prog 20 #[.slice A0 l0.length c0, .slice A1 l1.length c1] w fun e w' => e = .returned (.bool r) ∧ Drawn0 w w' := by
 have HR0 := Aside0.mk hr0
 have HC0 := Aside0.mk hc0
 clear hr0 hc0
 have HR1 := Aside0.mk hr1
 have HC1 := Aside0.mk hc1
 clear hr1 hc1
 have H : (if (l0.length : Int) = (l1.length : Int) then (laws_eqByteS.l0 k l0 l1 0) else (some false)) = some r := h
 clear h
 by_cases c3 : (l0.length : Int) = (l1.length : Int)
 ·rw [if_pos c3] at H
  have c3b0 : ((l0.length : Int) == (l1.length : Int)) = true := beq_iff_eq.mpr c3
  have c3b1 : ((l0.length : Int) != (l1.length : Int)) = false := bne_eq_false_iff_eq.mpr c3
  have c3b2 : (l0.length == l1.length) = true := by first | simpa using c3 | (simp at c3 ⊢; omega)
  clear c3
  have H' := Aside0.mk H
  clear H
  go_enter Try.func20, Try.ntmps20
  go_wp2
  repeat (go_quiet (fail); try go_wp2)
  go_loopg [5] k (fun kq v5 w' => ∃ (x5_1 : Int), v5 = .int .i64 x5_1 ∧ Aside0 (laws_eqByteS.l0 kq l0 l1 x5_1 = some r) ∧ Aside0 (kq ≤ k) ∧ Drawn0 w w')
  case atStart => exact ⟨(0), (by first | rfl | (simp; done) | (simp [*]; done)), H', ⟨Nat.le_refl _⟩, by repeat (first | exact Drawn0.refl _ | apply Drawn0.step)⟩
  case round =>
   clear H'
   try clear c1
   try clear c2
   try clear p2
   try clear c3
   try clear c3b0
   try clear c3b1
   try clear c3b2
   obtain ⟨x5_1, rfl, HA, HK1, ⟨m1, rfl⟩⟩ := hrel
   cases gk with
   | zero => exact absurd HA.out (by simp [laws_eqByteS.l0])
   | succ k1 =>
    have H := HA.out
    clear HA
    simp only [laws_eqByteS.l0] at H
    by_cases c4 : x5_1 < (l0.length : Int)
    ·rw [if_pos c4] at H
     have c4b0 : decide (x5_1 < (l0.length : Int)) = true := decide_eq_true c4
     clear c4
     by_cases c5 : 0 ≤ x5_1
     ·rw [if_pos c5] at H
      have c5b0 : decide (0 ≤ x5_1) = true := decide_eq_true c5
      clear c5
      by_cases c6 : x5_1 < (l1.length : Int)
      ·rw [if_pos c6] at H
       have c6b0 : decide (x5_1 < (l1.length : Int)) = true := decide_eq_true c6
       clear c6
       by_cases c7 : (rd l0 x5_1) = (rd l1 x5_1)
       ·rw [if_pos c7] at H
        have c7b0 : ((rd l0 x5_1) == (rd l1 x5_1)) = true := beq_iff_eq.mpr c7
        have c7b1 : ((rd l0 x5_1) != (rd l1 x5_1)) = false := bne_eq_false_iff_eq.mpr c7
        clear c7
        have H' := Aside0.mk H
        clear H
        have p164 : 0 ≤ (x5_1 : Int) := of_decide_eq_true (by first | (with_reducible assumption) | assumption)
        have q164 : x5_1 < (l0.length : Int) := of_decide_eq_true (by first | (with_reducible assumption) | assumption)
        obtain ⟨ad164, e164, hx164_0⟩ := Kd.at_int HR0.out x5_1 p164 q164
        cases e164
        replace p164 := eq_true p164
        replace q164 := eq_true q164
        have p165 : 0 ≤ (x5_1 : Int) := of_decide_eq_true (by first | (with_reducible assumption) | assumption)
        have q165 : x5_1 < (l1.length : Int) := of_decide_eq_true (by first | (with_reducible assumption) | assumption)
        obtain ⟨ad165, e165, hx165_0⟩ := Kd.at_int HR1.out x5_1 p165 q165
        cases e165
        replace p165 := eq_true p165
        replace q165 := eq_true q165
        go_wp2
        repeat (go_quiet (fail); try go_wp2)
        go_roundg k1
        case measure => have := HK1.out; omega
        case rel => exact ⟨(wrap64 (x5_1 + 1)), (by first | rfl | (simp; done) | (simp [*]; done)), H', ⟨by have := HK1.out; omega⟩, by repeat (first | exact Drawn0.refl _ | apply Drawn0.step)⟩
       ·rw [if_neg c7] at H
        have c7b0 : ((rd l0 x5_1) == (rd l1 x5_1)) = false := beq_eq_false_iff_ne.mpr c7
        have c7b1 : ((rd l0 x5_1) != (rd l1 x5_1)) = true := bne_iff_ne.mpr c7
        obtain rfl := Option.some.inj H
        have p164 : 0 ≤ (x5_1 : Int) := of_decide_eq_true (by first | (with_reducible assumption) | assumption)
        have q164 : x5_1 < (l0.length : Int) := of_decide_eq_true (by first | (with_reducible assumption) | assumption)
        obtain ⟨ad164, e164, hx164_0⟩ := Kd.at_int HR0.out x5_1 p164 q164
        cases e164
        replace p164 := eq_true p164
        replace q164 := eq_true q164
        have p165 : 0 ≤ (x5_1 : Int) := of_decide_eq_true (by first | (with_reducible assumption) | assumption)
        have q165 : x5_1 < (l1.length : Int) := of_decide_eq_true (by first | (with_reducible assumption) | assumption)
        obtain ⟨ad165, e165, hx165_0⟩ := Kd.at_int HR1.out x5_1 p165 q165
        cases e165
        replace p165 := eq_true p165
        replace q165 := eq_true q165
        go_wp2
        repeat (go_quiet (fail); try go_wp2)
        go_ret
        exact ⟨by first | rfl | (simp; done) | (simp [*]; done), by repeat (first | exact Drawn0.refl _ | apply Drawn0.step)⟩
      ·rw [if_neg c6] at H
       exact absurd H (by simp)
     ·rw [if_neg c5] at H
      exact absurd H (by simp)
    ·rw [if_neg c4] at H
     have c4b0 : decide (x5_1 < (l0.length : Int)) = false := decide_eq_false c4
     clear c4
     obtain rfl := Option.some.inj H
     go_wp2
     repeat (go_quiet (fail); try go_wp2)
     go_ret
     exact ⟨by first | rfl | (simp; done) | (simp [*]; done), by repeat (first | exact Drawn0.refl _ | apply Drawn0.step)⟩
 ·rw [if_neg c3] at H
  have c3b0 : ((l0.length : Int) == (l1.length : Int)) = false := beq_eq_false_iff_ne.mpr c3
  have c3b1 : ((l0.length : Int) != (l1.length : Int)) = true := bne_iff_ne.mpr c3
  have c3b2 : (l0.length == l1.length) = false := by first | simpa using c3 | (simp at c3 ⊢; omega)
  obtain rfl := Option.some.inj H
  go_enter Try.func20, Try.ntmps20
  go_wp2
  repeat (go_quiet (fail); try go_wp2)
  go_ret
  exact ⟨by first | rfl | (simp; done) | (simp [*]; done), by repeat (first | exact Drawn0.refl _ | apply Drawn0.step)⟩
theorem laws_eqByteS.ev (a b : List Int) (ha : a.length ≤ 4611686018427387904) : Ev (fun k => laws_eqByteS.f k a b) (a == b) := by
 unfold laws_eqByteS.f
 by_cases hl : a.length = b.length
 ·refine Ev.ip (by omega) ?_
  have key : ∀ d i : Nat, a.length - i = d → i ≤ a.length → Ev (fun k => laws_eqByteS.l0 k a b (i : Int)) (a.drop i == b.drop i) := by
   intro d
   induction d with
   | zero =>
    intro i hd hi
    refine Ev.step (fun _ => by rw [laws_eqByteS.l0]) ?_
    refine Ev.ng (by omega) (Ev.eq (Ev.now _) ?_)
    rw [List.drop_of_length_le (by omega), List.drop_of_length_le (by omega)]; rfl
   | succ d ih =>
    intro i hd hi
    have h1 : i < a.length := by omega
    have h2 : i < b.length := by omega
    refine Ev.step (fun _ => by rw [laws_eqByteS.l0]) ?_
    refine Ev.ip (by omega) (Ev.ip (by omega) (Ev.ip (by omega) ?_))
    rw [rd_nat a i h1, rd_nat b i h2, wrap_succ i (by omega)]
    have e : (a.drop i == b.drop i) = (a[i] == b[i] && a.drop (i + 1) == b.drop (i + 1)) := by
     rw [List.drop_eq_getElem_cons h1, List.drop_eq_getElem_cons h2]; rfl
    rw [e]
    by_cases h : a[i] = b[i]
    ·exact Ev.ip h (Ev.eq (ih (i + 1) (by omega) (by omega)) (by simp [h]))
    ·exact Ev.ng h (Ev.eq (Ev.now _) (by simp [h]))
  exact key _ 0 rfl (by omega)
 ·refine Ev.ng (by omega) (Ev.eq (Ev.now _) ?_)
  symm
  rw [beq_eq_false_iff_ne]
  intro h; exact hl (by rw [h])
theorem laws_eqByteS.T (a : List Int) (ha : a.length ≤ 1048576) : Ev (fun k => laws_eqByteS.f k a a) true := Ev.eq (laws_eqByteS.ev a a (by omega)) (by simp)
end Go.Proofs.Ytcjjmfpkhhdmlaa.G

namespace Go.Proofs.Ytcjjmfpkhhdmlaa.G
open Go.RowKit Go.Proofs.YtcjjmfpkhhdmlaaW.PrintWords Go.Proofs.YtcjjmfpkhhdmlaaW.PrintLast Go.Proofs.YtcjjmfpkhhdmlaaW.PrintMore
attribute [local go_sem] max2_int min2_int max_two min_two max_three min_three max_four min_four   -- for this text's walks alone
/-! ### laws_markByteS: function 22 -/
def laws_markByteS.l0 : Nat → List Int → Int → Int → Option (Int × List Int)
 | 0, _, _, _ => none
 | k + 1, x0, x1, x5 => if x5 < (x0.length : Int) then (if 0 ≤ x5 then (laws_markByteS.l0 k (x0.set (x5 : Int).toNat ((x1) % 256)) (wrap64 (x1 + 1)) (wrap64 (x5 + 1))) else (none)) else (some (x1, x0))
def laws_markByteS.f (k : Nat) (l0 : List Int) (a1 : Int) : Option (Int × List Int) := laws_markByteS.l0 k l0 a1 0
theorem laws_markByteS.mono_l : ∀ k, (∀ y0 y1 y2, LeO (laws_markByteS.l0 k y0 y1 y2) (laws_markByteS.l0 (k + 1) y0 y1 y2))
 | 0 => fun _ _ _ r h => by simp [laws_markByteS.l0] at h
 | k + 1 => by
  have ih0 := laws_markByteS.mono_l k
  ·intro y0 y1 y2
   unfold laws_markByteS.l0
   repeat' first
   | (with_reducible exact ih0 _ _ _)
   | (with_reducible exact LeO.refl _)
   | (with_reducible exact LeO.none _)
   | (with_reducible refine LeO.ite ?_ ?_)
   | (with_reducible refine LeO.bind ?_ (fun _ => ?_))
   | exact ih0 _ _ _
   | exact LeO.none _
   | refine LeO.ite ?_ ?_
   | refine LeO.bind ?_ (fun _ => ?_)
theorem laws_markByteS.mono : ∀ a0 a1 k, LeO (laws_markByteS.f k a0 a1) (laws_markByteS.f (k + 1) a0 a1) := by
 intro a0 a1 k
 have ih0 := laws_markByteS.mono_l k
 unfold laws_markByteS.f
 repeat' first
   | (with_reducible exact ih0 _ _ _)
   | (with_reducible exact LeO.refl _)
   | (with_reducible exact LeO.none _)
   | (with_reducible refine LeO.ite ?_ ?_)
   | (with_reducible refine LeO.bind ?_ (fun _ => ?_))
   | exact ih0 _ _ _
   | exact LeO.none _
   | refine LeO.ite ?_ ?_
   | refine LeO.bind ?_ (fun _ => ?_)
set_option maxHeartbeats 8000000 in
set_option maxRecDepth 100000 in
theorem laws_markByteS.calls (k : Nat) (P0_ : Nat → Prop) (u9000_ : Value) (l0 : List Int) (a1 : Int) (r1 : Int) (r2 : List Int) (w0 w : World) (hB : Below w0.heap.size w0 w) (ho0 : Kd.R (Kd.int .u8) 5 w w0.heap.size P0_ u9000_ l0) (h : laws_markByteS.f k l0 a1 = some (r1, r2)) :
  Calls Try.prog 22 #[u9000_, .int .i64 a1] w fun e w' => e = .returned (.int .i64 r1) ∧ Kd.R (Kd.int .u8) 5 w' w0.heap.size (fun k_ => (P0_ k_ ∨ w.heap.size ≤ k_)) u9000_ r2 ∧ Below w0.heap.size w0 w' ∧ Kept w w' (fun k_ => P0_ k_) := by
 have HO0 := Aside0.mk (show Kd.R (Kd.int .u8) 5 w w0.heap.size (fun k_ => (P0_ k_ ∨ w.heap.size ≤ k_)) u9000_ l0 from Kd.R_mono ho0 (fun k_ hk => (.inl hk)))
 have HK := Aside0.mk (Kept.refl w (fun k_ => P0_ k_))
 have HW0 := Aside0.mk hB.size
 have HB := Aside0.mk hB
 clear hB
 have H : (laws_markByteS.l0 k l0 a1 0) = some (r1, r2) := h
 clear h
 have H' := Aside0.mk H
 clear H
 go_enter Try.func22, Try.ntmps22
 go_wp2
 go_loopg [1, 5] k (fun kq v1 v5 w' => ∃ (x0_1 : List Int) (x1_1 : Int) (x5_1 : Int), v1 = .int .i64 x1_1 ∧ v5 = .int .i64 x5_1 ∧ Aside0 (laws_markByteS.l0 kq x0_1 x1_1 x5_1 = some (r1, r2)) ∧ Aside0 (kq ≤ k) ∧ Aside0 (Kd.R (Kd.int .u8) 5 w' w0.heap.size (fun k_ => (P0_ k_ ∨ w.heap.size ≤ k_)) u9000_ x0_1) ∧ Aside0 (Kept w w' (fun k_ => P0_ k_)) ∧ Aside0 (Below w0.heap.size w0 w'))
 case atStart => exact ⟨(l0), (a1), (0), (by first | rfl | (simp; done) | (simp [*]; done)), (by first | rfl | (simp; done) | (simp [*]; done)), H', ⟨Nat.le_refl _⟩, ⟨by (with_reducible repeat (first | apply Kd.R_alloc | apply Kd.R_drewN | apply Kd.R_drew)); exact HO0.out⟩, ⟨by repeat (first | (with_reducible first | exact HK.out | apply Kept.alloc | apply Kept.drewN | apply Kept.drew) | exact HK.out)⟩, ⟨by repeat (first | (with_reducible first | exact HB.out | apply below_alloc | apply pw_below_drewN | apply below_drew1) | exact HB.out)⟩⟩
 case round =>
  clear H'
  try clear c2
  try clear p2
  obtain ⟨x0_1, x1_1, x5_1, rfl, rfl, HA, HK1, HO_0, HK, HB⟩ := hrel
  cases gk with
  | zero => exact absurd HA.out (by simp [laws_markByteS.l0])
  | succ k1 =>
   have H := HA.out
   clear HA
   simp only [laws_markByteS.l0] at H
   by_cases c3 : x5_1 < (x0_1.length : Int)
   ·rw [if_pos c3] at H
    have c3b0 : decide (x5_1 < (x0_1.length : Int)) = true := decide_eq_true c3
    clear c3
    by_cases c4 : 0 ≤ x5_1
    ·rw [if_pos c4] at H
     have c4b0 : decide (0 ≤ x5_1) = true := decide_eq_true c4
     clear c4
     obtain ⟨y167, hy167⟩ : ∃ y_ : List Int, y_ = (x0_1.set (x5_1 : Int).toNat ((x1_1) % 256)) := ⟨_, rfl⟩
     replace H : (laws_markByteS.l0 k1 y167 (wrap64 (x1_1 + 1)) (wrap64 (x5_1 + 1))) = some (r1, r2) := by first | (rw [hy167]; with_reducible exact H) | (have H2_ := (Option.bind_some _ _).symm.trans H; rw [hy167]; with_reducible exact H2_) | (have H2_ := (Option.bind_some _ _).symm.trans H; with_reducible exact H2_) | with_reducible exact H | (rw [hy167]; exact H) | exact H
     have Ny167 := Aside0.mk hy167
     clear hy167
     have H' := Aside0.mk H
     clear H
     obtain ⟨Ao6, co6, eo6⟩ := Kd.R_slice HO_0.out
     subst eo6
     have p5 : 0 ≤ (x5_1 : Int) := of_decide_eq_true (by first | (with_reducible assumption) | assumption)
     have q5 : (x5_1 : Int) < ((x0_1.length : Int) : Int) := of_decide_eq_true (by first | (with_reducible assumption) | assumption)
     obtain ⟨go5, co5, eo5, gb5, gl5, cl5, HG5⟩ := Kd.R_form HO_0.out (by omega)
     (first | cases eo5 | (injection eo5 with ea_ en_ ec_; (first | subst ea_ | (injection ea_ with ea_; subst ea_)); subst ec_; clear en_))
     have GB5 := Aside0.mk gb5
     have GG5 := Aside0.mk HG5
     clear gb5 gl5 HG5
     have HMgo5 := Aside0.mk (show (P0_ go5 ∨ w.heap.size ≤ go5) from (HO_0.out.1 _ rfl))
     obtain ⟨hx5_0, hf5_0⟩ := Kd.R_celln 0 HO_0.out (x5_1 : Int) p5 q5
     replace p5 := eq_true p5
     replace q5 := eq_true q5
     have HP7 := Kd.R_putg HO_0.out (x5_1 : Int) ((x1_1) % 256)
     go_wp2_with (first | ((with_reducible refine gate_store (t := 5) (p := 16) rfl ?_); refine store_event (t := 5) (p := 16) (v := ?vo_w8) (w1 := (wr.setCell ⟨go5, (x5_1 : Int).toNat, none⟩ (.int .u8 ((x1_1) % 256)))) ?hg ?ho ?hn ?hr ?_; (case ho => rfl); (case hg => rfl); (case hn => rfl); (case hr => first | (go_simp; done) | (go_simp; rfl)); intro w8 hw; have hg : wr.grownBy w8 (some go5) := (by rw [hw]; exact HP7.2); have hp_ : Kd.R (Kd.int .u8) 5 w8 w0.heap.size (fun k_ => (P0_ k_ ∨ w.heap.size ≤ k_)) (.slice (some ⟨go5, 0, none⟩) x0_1.length co6) y167 := (by rw [hw, Ny167.out]; exact HP7.1); clear HP7; have n0_ := Aside0.mk (hp_); have n1_ := Aside0.mk ((by rw [hw]; exact below_set (HB.out) GB5.out : Below w0.heap.size w0 w8)); have n2_ := Aside0.mk (Kept.of_grown (S := (fun k_ => P0_ k_)) hg (by repeat (first | (with_reducible first | exact HK.out | apply Kept.alloc | apply Kept.drewN | apply Kept.drew) | exact HK.out)) (fun k_ e_ => (HO_0.out.1 k_ e_))); clear HO_0; clear HB; clear HK; have HO_0 := n0_; have HB := n1_; have HK := n2_; clear n0_ n1_ n2_; clear hg hw hp_))
     go_roundg k1
     case measure => have := HK1.out; omega
     case rel => exact ⟨(y167), (wrap64 (x1_1 + 1)), (wrap64 (x5_1 + 1)), (by first | rfl | (simp; done) | (simp [*]; done)), (by first | rfl | (simp; done) | (simp [*]; done)), H', ⟨by have := HK1.out; omega⟩, ⟨by (with_reducible repeat (first | apply Kd.R_alloc | apply Kd.R_drewN | apply Kd.R_drew)); exact HO_0.out⟩, ⟨by repeat (first | (with_reducible first | exact HK.out | apply Kept.alloc | apply Kept.drewN | apply Kept.drew) | exact HK.out)⟩, ⟨by repeat (first | (with_reducible first | exact HB.out | apply below_alloc | apply pw_below_drewN | apply below_drew1) | exact HB.out)⟩⟩
    ·rw [if_neg c4] at H
     exact absurd H (by simp)
   ·rw [if_neg c3] at H
    have c3b0 : decide (x5_1 < (x0_1.length : Int)) = false := decide_eq_false c3
    clear c3
    simp only [Option.some.injEq, Prod.mk.injEq] at H
    obtain ⟨rfl, rfl⟩ := H
    obtain ⟨Ao9, co9, eo9⟩ := Kd.R_slice HO_0.out
    subst eo9
    go_wp2
    go_ret
    exact ⟨by first | rfl | (simp [errW_none, errW_some] <;> rfl) | (simp [*, errW_none, errW_some] <;> rfl), by (with_reducible repeat (first | apply Kd.R_alloc | apply Kd.R_drewN | apply Kd.R_drew)); exact HO_0.out, by repeat (first | (with_reducible first | exact HB.out | apply below_alloc | apply pw_below_drewN | apply below_drew1) | exact HB.out), by repeat (first | (with_reducible first | exact HK.out | apply Kept.alloc | apply Kept.drewN | apply Kept.drew) | exact HK.out)⟩
theorem laws_markByteS.E (l : List Int) (a : Int) (h0 : 0 ≤ a) (h1 : a ≤ 1125899906842624) (hl : l.length ≤ 1048576) : Ev (fun k => laws_markByteS.f k l a) (a + l.length, risingB a l.length) := by
 unfold laws_markByteS.f
 have key : ∀ d i : Nat, l.length - i = d → i ≤ l.length → Ev (fun k => laws_markByteS.l0 k (risingB a i ++ l.drop i) (a + i) (i : Int)) (a + l.length, risingB a l.length) := by
  intro d
  induction d with
  | zero =>
   intro i hd hi
   obtain rfl : i = l.length := by omega
   refine Ev.step (fun _ => by rw [laws_markByteS.l0]) (Ev.ng (by simp [risingB_length]) (Ev.eq (Ev.now _) ?_))
   simp
  | succ d ih =>
   intro i hd hi
   have hlt : i < l.length := by omega
   refine Ev.step (fun _ => by rw [laws_markByteS.l0]) (Ev.ip (by simp [risingB_length]; omega) (Ev.ip (by omega) ?_))
   rw [wrap_in (a + i + 1) (by omega) (by omega), wrap_succ i (by omega)]
   have e : (risingB a i ++ l.drop i).set ((i : Int)).toNat ((a + i) % 256) = risingB a (i + 1) ++ l.drop (i + 1) := by
    rw [Int.toNat_natCast, risingB_snoc, List.drop_eq_getElem_cons hlt, List.set_append_right _ _ (by rw [risingB_length]; omega), risingB_length, Nat.sub_self, List.set_cons_zero, List.append_assoc]
    rfl
   rw [e, show a + i + 1 = a + ((i + 1 : Nat) : Int) by omega]
   exact ih (i + 1) (by omega) (by omega)
 have := key _ 0 rfl (by omega)
 simpa [risingB, rising] using this
end Go.Proofs.Ytcjjmfpkhhdmlaa.G

namespace Go.Proofs.Ytcjjmfpkhhdmlaa.G
open Go.RowKit Go.Proofs.YtcjjmfpkhhdmlaaW.PrintWords Go.Proofs.YtcjjmfpkhhdmlaaW.PrintLast Go.Proofs.YtcjjmfpkhhdmlaaW.PrintMore
attribute [local go_sem] max2_int min2_int max_two min_two max_three min_three max_four min_four   -- for this text's walks alone
/-! ### laws_szByteS: function 137 -/
def laws_szByteS.f (l0 : List Int) (a1 : Int) : Option (Int) := if (wrap64 (a1 - (l0.length : Int))) < 0 then (some (-1)) else (some (wrap64 (a1 - (l0.length : Int))))
set_option maxHeartbeats 8000000 in
set_option maxRecDepth 100000 in
theorem laws_szByteS.calls (A0 : Option Addr) (c0 : Nat) (l0 : List Int) (a1 : Int) (r : Int) (w : World) (hr0 : Kd.C (Kd.int .u8) w A0 l0.length l0) (hc0 : l0.length ≤ c0) (h : laws_szByteS.f l0 a1 = some r) :
  Calls Try.prog 137 #[.slice A0 l0.length c0, .int .i64 a1] w fun e w' => e = .returned (.int .i64 r) ∧ Drawn0 w w' := by
 have HR0 := Aside0.mk hr0
 have HC0 := Aside0.mk hc0
 clear hr0 hc0
 have H : (if (wrap64 (a1 - (l0.length : Int))) < 0 then (some (-1)) else (some (wrap64 (a1 - (l0.length : Int))))) = some r := h
 clear h
 by_cases c3 : (wrap64 (a1 - (l0.length : Int))) < 0
 ·rw [if_pos c3] at H
  have c3b0 : decide ((wrap64 (a1 - (l0.length : Int))) < 0) = true := decide_eq_true c3
  clear c3
  obtain rfl := Option.some.inj H
  go_enter Try.func137, Try.ntmps137
  go_wp2
  go_ret
  exact ⟨by first | rfl | (simp; done) | (simp [*]; done), by repeat (first | exact Drawn0.refl _ | apply Drawn0.step)⟩
 ·rw [if_neg c3] at H
  have c3b0 : decide ((wrap64 (a1 - (l0.length : Int))) < 0) = false := decide_eq_false c3
  clear c3
  obtain rfl := Option.some.inj H
  go_enter Try.func137, Try.ntmps137
  go_wp2
  go_ret
  exact ⟨by first | rfl | (simp; done) | (simp [*]; done), by repeat (first | exact Drawn0.refl _ | apply Drawn0.step)⟩
end Go.Proofs.Ytcjjmfpkhhdmlaa.G

namespace Go.Proofs.Ytcjjmfpkhhdmlaa.G
open Go.RowKit Go.Proofs.YtcjjmfpkhhdmlaaW.PrintWords Go.Proofs.YtcjjmfpkhhdmlaaW.PrintLast Go.Proofs.YtcjjmfpkhhdmlaaW.PrintMore
attribute [local go_sem] max2_int min2_int max_two min_two max_three min_three max_four min_four   -- for this text's walks alone
/-! ### laws_szFeed: function 64 -/
def laws_szFeed.f (l0_0 : List Int) (a0_1 : Int) (a0_2 : Bool) (a0_3 : Int) (a0_4 : Int) (a1 : Int) : Option (Int) := (laws_szByteS.f l0_0 a1).bind fun t1019 => (if t1019 < 0 then (some (-1)) else (some t1019))
set_option maxHeartbeats 8000000 in
set_option maxRecDepth 100000 in
theorem laws_szFeed.calls (A0_0 : Option Addr) (c0_0 : Nat) (l0_0 : List Int) (a0_1 : Int) (a0_2 : Bool) (a0_3 : Int) (a0_4 : Int) (a1 : Int) (r : Int) (w : World) (hr0_0 : Kd.C (Kd.int .u8) w A0_0 l0_0.length l0_0) (hc0_0 : l0_0.length ≤ c0_0) (h : laws_szFeed.f l0_0 a0_1 a0_2 a0_3 a0_4 a1 = some r) :
  Calls Try.prog 64 #[.agg #[.slice A0_0 l0_0.length c0_0, .int .i64 a0_1, .bool a0_2, .int .i64 a0_3, .int .i64 a0_4], .int .i64 a1] w fun e w' => e = .returned (.int .i64 r) ∧ Below w.heap.size w w' := by
 have hu73 := Try.underlying73
 have HR0_0 := Aside0.mk hr0_0
 have HC0_0 := Aside0.mk hc0_0
 clear hr0_0 hc0_0
 have HB := Aside0.mk (Below.refl w.heap.size w)
 have H : ((laws_szByteS.f l0_0 a1).bind fun t1019 => (if t1019 < 0 then (some (-1)) else (some t1019))) = some r := h
 clear h
 replace H := Option.bind_eq_some_iff.mp H
 obtain ⟨t1019, A30, H⟩ := H
 replace H : (if t1019 < 0 then (some (-1)) else (some t1019)) = some r := H
 have A3 := Aside0.mk A30
 clear A30
 by_cases c4 : t1019 < 0
 ·rw [if_pos c4] at H
  have c4b0 : decide (t1019 < 0) = true := decide_eq_true c4
  clear c4
  obtain rfl := Option.some.inj H
  go_enter Try.func64, Try.ntmps64
  go_wp2_with (first | ((with_reducible refine gate_dst (N := 2) rfl ?_); refine box_event ?hg (N := 2) ?hd (cs := #[.slice A0_0 l0_0.length c0_0, .int .i64 a0_1, .bool a0_2, .int .i64 a0_3, .int .i64 a0_4]) (t := 73) ?hr ?_; (case hd => rfl); (case hg => rfl); (case hr => first | (go_simp; done) | (go_simp; rfl)); intro gb1018 hg w5 hbox hb; have n0_ := Aside0.mk (below_step (by repeat (first | (with_reducible first | exact HB.out | apply below_alloc | apply pw_below_drewN | apply below_drew1) | exact HB.out)) hb); have n1_ := Aside0.mk (hbox); have n2_ := Aside0.mk ((by rw [hg]; exact (below_size (by repeat (first | (with_reducible first | exact HB.out | apply below_alloc | apply pw_below_drewN | apply below_drew1) | exact HB.out))) : w.heap.size ≤ gb1018)); have n3_ := Aside0.mk ((by rw [hg]; exact (below_size (by repeat (first | (with_reducible first | exact HB.out | apply below_alloc | apply pw_below_drewN | apply below_drew1) | exact HB.out))) : w.heap.size ≤ gb1018)); clear HB; have HB := n0_; have BK1018 := n1_; have GW1018 := n2_; have GE1018 := n3_; clear n0_ n1_ n2_ n3_; clear hb hbox hg; have hcz6_0 : w5.cell? ⟨gb1018, 0, none⟩ = some (.slice A0_0 l0_0.length c0_0) := (blk_cell BK1018.out 0).trans rfl; have hcz6_1 : w5.cell? ⟨gb1018, 1, none⟩ = some (.int .i64 a0_1) := (blk_cell BK1018.out 1).trans rfl; have hcz6_2 : w5.cell? ⟨gb1018, 2, none⟩ = some (.bool a0_2) := (blk_cell BK1018.out 2).trans rfl; have hcz6_3 : w5.cell? ⟨gb1018, 3, none⟩ = some (.int .i64 a0_3) := (blk_cell BK1018.out 3).trans rfl; have hcz6_4 : w5.cell? ⟨gb1018, 4, none⟩ = some (.int .i64 a0_4) := (blk_cell BK1018.out 4).trans rfl; have hfz6_0 := blk_frozen BK1018.out 0; have hfz6_1 := blk_frozen BK1018.out 1; have hfz6_2 := blk_frozen BK1018.out 2; have hfz6_3 := blk_frozen BK1018.out 3; have hfz6_4 := blk_frozen BK1018.out 4) | ((with_reducible refine gate_callee (f := 137) rfl ?_); refine goesL_ (some 8) rfl rfl Try.func137 (by kernel_rfl) rfl #[.slice A0_0 l0_0.length c0_0, .int .i64 a1] rfl (by (try simp only [List.map_toArray, List.map_cons, List.map_nil]); first | done | rfl | (simp only [List.length_drop, List.length_take]; rfl)) ?_; (with_reducible refine (laws_szByteS.calls _ _ l0_0 a1 t1019 _ ?side1 ?side2 A3.out).mono ?_); (case side1 => repeat (first | exact (Kd.C_below HR0_0.out HB.out) | (with_reducible refine Kd.C_alloc ?_ _) | (with_reducible refine Kd.C_drewN ?_ _) | (with_reducible refine Kd.C_drew ?_))); (case side2 => exact HC0_0.out); rintro e w' ⟨rfl, ⟨nd, rfl⟩⟩; refine ⟨_, rfl, ?_⟩))
  go_ret
  exact ⟨by first | rfl | (simp [errW_none, errW_some] <;> rfl) | (simp [*, errW_none, errW_some] <;> rfl), by repeat (first | (with_reducible first | exact HB.out | apply below_alloc | apply pw_below_drewN | apply below_drew1 | refine below_set ?_ GE1018.out) | exact HB.out)⟩
 ·rw [if_neg c4] at H
  have c4b0 : decide (t1019 < 0) = false := decide_eq_false c4
  clear c4
  obtain rfl := Option.some.inj H
  go_enter Try.func64, Try.ntmps64
  go_wp2_with (first | ((with_reducible refine gate_dst (N := 2) rfl ?_); refine box_event ?hg (N := 2) ?hd (cs := #[.slice A0_0 l0_0.length c0_0, .int .i64 a0_1, .bool a0_2, .int .i64 a0_3, .int .i64 a0_4]) (t := 73) ?hr ?_; (case hd => rfl); (case hg => rfl); (case hr => first | (go_simp; done) | (go_simp; rfl)); intro gb1018 hg w7 hbox hb; have n0_ := Aside0.mk (below_step (by repeat (first | (with_reducible first | exact HB.out | apply below_alloc | apply pw_below_drewN | apply below_drew1) | exact HB.out)) hb); have n1_ := Aside0.mk (hbox); have n2_ := Aside0.mk ((by rw [hg]; exact (below_size (by repeat (first | (with_reducible first | exact HB.out | apply below_alloc | apply pw_below_drewN | apply below_drew1) | exact HB.out))) : w.heap.size ≤ gb1018)); have n3_ := Aside0.mk ((by rw [hg]; exact (below_size (by repeat (first | (with_reducible first | exact HB.out | apply below_alloc | apply pw_below_drewN | apply below_drew1) | exact HB.out))) : w.heap.size ≤ gb1018)); clear HB; have HB := n0_; have BK1018 := n1_; have GW1018 := n2_; have GE1018 := n3_; clear n0_ n1_ n2_ n3_; clear hb hbox hg; have hcz8_0 : w7.cell? ⟨gb1018, 0, none⟩ = some (.slice A0_0 l0_0.length c0_0) := (blk_cell BK1018.out 0).trans rfl; have hcz8_1 : w7.cell? ⟨gb1018, 1, none⟩ = some (.int .i64 a0_1) := (blk_cell BK1018.out 1).trans rfl; have hcz8_2 : w7.cell? ⟨gb1018, 2, none⟩ = some (.bool a0_2) := (blk_cell BK1018.out 2).trans rfl; have hcz8_3 : w7.cell? ⟨gb1018, 3, none⟩ = some (.int .i64 a0_3) := (blk_cell BK1018.out 3).trans rfl; have hcz8_4 : w7.cell? ⟨gb1018, 4, none⟩ = some (.int .i64 a0_4) := (blk_cell BK1018.out 4).trans rfl; have hfz8_0 := blk_frozen BK1018.out 0; have hfz8_1 := blk_frozen BK1018.out 1; have hfz8_2 := blk_frozen BK1018.out 2; have hfz8_3 := blk_frozen BK1018.out 3; have hfz8_4 := blk_frozen BK1018.out 4) | ((with_reducible refine gate_callee (f := 137) rfl ?_); refine goesL_ (some 8) rfl rfl Try.func137 (by kernel_rfl) rfl #[.slice A0_0 l0_0.length c0_0, .int .i64 a1] rfl (by (try simp only [List.map_toArray, List.map_cons, List.map_nil]); first | done | rfl | (simp only [List.length_drop, List.length_take]; rfl)) ?_; (with_reducible refine (laws_szByteS.calls _ _ l0_0 a1 t1019 _ ?side1 ?side2 A3.out).mono ?_); (case side1 => repeat (first | exact (Kd.C_below HR0_0.out HB.out) | (with_reducible refine Kd.C_alloc ?_ _) | (with_reducible refine Kd.C_drewN ?_ _) | (with_reducible refine Kd.C_drew ?_))); (case side2 => exact HC0_0.out); rintro e w' ⟨rfl, ⟨nd, rfl⟩⟩; refine ⟨_, rfl, ?_⟩))
  go_ret
  exact ⟨by first | rfl | (simp [errW_none, errW_some] <;> rfl) | (simp [*, errW_none, errW_some] <;> rfl), by repeat (first | (with_reducible first | exact HB.out | apply below_alloc | apply pw_below_drewN | apply below_drew1 | refine below_set ?_ GE1018.out) | exact HB.out)⟩
theorem szFeed_val (l : List Int) (n : Int) (o : Bool) (fc fa : Int) (h : l.length ≤ 9223372036854775807) : laws_szFeed.f l n o fc fa 1048576 = some (if 1048576 < l.length then -1 else 1048576 - (l.length : Int)) := by
 unfold laws_szFeed.f laws_szByteS.f
 rw [wrap_in _ (by omega) (by omega)]
 by_cases hb : 1048576 < l.length
 ·rw [if_pos (by omega), if_pos hb]; rfl
 ·rw [if_neg (by omega), if_neg hb]
  simp only [Option.bind_some]
  rw [if_neg (by omega)]
end Go.Proofs.Ytcjjmfpkhhdmlaa.G

namespace Go.Proofs.Ytcjjmfpkhhdmlaa.G
open Go.RowKit Go.Proofs.YtcjjmfpkhhdmlaaW.PrintWords Go.Proofs.YtcjjmfpkhhdmlaaW.PrintLast Go.Proofs.YtcjjmfpkhhdmlaaW.PrintMore
attribute [local go_sem] max2_int min2_int max_two min_two max_three min_three max_four min_four   -- for this text's walks alone
/-! ### laws_toFault: function 139 -/
def laws_toFault.f (a0_0 : Int) (a0_1 : Int) : Option (Int × Int) := some (a0_0, a0_1)
set_option maxHeartbeats 8000000 in
set_option maxRecDepth 100000 in
theorem laws_toFault.calls (a0_0 : Int) (a0_1 : Int) (r1 : Int) (r2 : Int) (w : World) (h : laws_toFault.f a0_0 a0_1 = some (r1, r2)) :
  Calls Try.prog 139 #[.agg #[.int .i64 a0_0, .int .i64 a0_1]] w fun e w' => e = .returned (.agg #[.int .i64 r1, .int .i64 r2]) ∧ Below w.heap.size w w' := by
 have hu71 := Try.underlying71
 have hu65 := Try.underlying65
 have HB := Aside0.mk (Below.refl w.heap.size w)
 have H : (some (a0_0, a0_1)) = some (r1, r2) := h
 clear h
 simp only [Option.some.injEq, Prod.mk.injEq] at H
 obtain ⟨rfl, rfl⟩ := H
 go_enter Try.func139, Try.ntmps139
 go_wp2_with (first | ((with_reducible refine gate_dst (N := 1) rfl ?_); refine box_event ?hg (N := 1) ?hd (cs := #[.int .i64 a0_0, .int .i64 a0_1]) (t := 71) ?hr ?_; (case hd => rfl); (case hg => rfl); (case hr => first | (go_simp; done) | (go_simp; rfl)); intro gb1043 hg w2 hbox hb; have n0_ := Aside0.mk (below_step (by repeat (first | (with_reducible first | exact HB.out | apply below_alloc | apply pw_below_drewN | apply below_drew1) | exact HB.out)) hb); have n1_ := Aside0.mk (hbox); have n2_ := Aside0.mk ((by rw [hg]; exact (below_size (by repeat (first | (with_reducible first | exact HB.out | apply below_alloc | apply pw_below_drewN | apply below_drew1) | exact HB.out))) : w.heap.size ≤ gb1043)); have n3_ := Aside0.mk ((by rw [hg]; exact (below_size (by repeat (first | (with_reducible first | exact HB.out | apply below_alloc | apply pw_below_drewN | apply below_drew1) | exact HB.out))) : w.heap.size ≤ gb1043)); clear HB; have HB := n0_; have BK1043 := n1_; have GW1043 := n2_; have GE1043 := n3_; clear n0_ n1_ n2_ n3_; clear hb hbox hg) | ((with_reducible refine gate_dst (N := 2) rfl ?_); refine box_event ?hg (N := 2) ?hd (cs := #[.int .i64 0, .int .i64 0]) (t := 65) ?hr ?_; (case hd => rfl); (case hg => rfl); (case hr => first | (go_simp; done) | (go_simp; rfl)); intro gb1044 hg w3 hbox hb; have n0_ := Aside0.mk (blk_below (g := gb1043) (o := .cells #[.int .i64 a0_0, .int .i64 a0_1] 71 (0, 0)) (by (with_reducible repeat (first | refine blk_drewN ?_ _ | refine blk_drew ?_ | refine blk_alloc ?_ _)); exact BK1043.out) hb); have n1_ := Aside0.mk (below_step (by repeat (first | (with_reducible first | exact HB.out | apply below_alloc | apply pw_below_drewN | apply below_drew1 | refine below_set ?_ GE1043.out) | exact HB.out)) hb); have n2_ := Aside0.mk (hbox); have n3_ := Aside0.mk ((by rw [hg]; exact (below_size (by repeat (first | (with_reducible first | exact HB.out | apply below_alloc | apply pw_below_drewN | apply below_drew1 | refine below_set ?_ GE1043.out) | exact HB.out))) : w.heap.size ≤ gb1044)); have n4_ := Aside0.mk ((by rw [hg]; exact (below_size (by repeat (first | (with_reducible first | exact HB.out | apply below_alloc | apply pw_below_drewN | apply below_drew1 | refine below_set ?_ GE1043.out) | exact HB.out))) : w.heap.size ≤ gb1044)); have n5_ := Aside0.mk ((by rw [hg]; exact Nat.ne_of_lt (blk_lt (g := gb1043) (o := .cells #[.int .i64 a0_0, .int .i64 a0_1] 71 (0, 0)) (by (with_reducible repeat (first | refine blk_drewN ?_ _ | refine blk_drew ?_ | refine blk_alloc ?_ _)); exact BK1043.out)) : gb1043 ≠ gb1044)); have n6_ := Aside0.mk ((by rw [hg]; exact Nat.ne_of_gt (blk_lt (g := gb1043) (o := .cells #[.int .i64 a0_0, .int .i64 a0_1] 71 (0, 0)) (by (with_reducible repeat (first | refine blk_drewN ?_ _ | refine blk_drew ?_ | refine blk_alloc ?_ _)); exact BK1043.out)) : gb1044 ≠ gb1043)); clear BK1043; clear HB; have BK1043 := n0_; have HB := n1_; have BK1044 := n2_; have GW1044 := n3_; have GE1044 := n4_; have NB1043_1044 := n5_; have NB1044_1043 := n6_; clear n0_ n1_ n2_ n3_ n4_ n5_ n6_; clear hb hbox hg) | ((with_reducible refine gate_dst (N := 3) rfl ?_); refine box_event ?hg (N := 3) ?hd (cs := #[.int .i64 0, .int .i64 0]) (t := 65) ?hr ?_; (case hd => rfl); (case hg => rfl); (case hr => first | (go_simp; done) | (go_simp; rfl)); intro gb1045 hg w4 hbox hb; have n0_ := Aside0.mk (blk_below (g := gb1043) (o := .cells #[.int .i64 a0_0, .int .i64 a0_1] 71 (0, 0)) (by (with_reducible repeat (first | refine blk_drewN ?_ _ | refine blk_drew ?_ | refine blk_alloc ?_ _)); exact BK1043.out) hb); have n1_ := Aside0.mk (blk_below (g := gb1044) (o := .cells #[.int .i64 0, .int .i64 0] 65 (0, 0)) (by (with_reducible repeat (first | refine blk_drewN ?_ _ | refine blk_drew ?_ | refine blk_alloc ?_ _)); exact BK1044.out) hb); have n2_ := Aside0.mk (below_step (by repeat (first | (with_reducible first | exact HB.out | apply below_alloc | apply pw_below_drewN | apply below_drew1 | refine below_set ?_ GE1043.out | refine below_set ?_ GE1044.out) | exact HB.out)) hb); have n3_ := Aside0.mk (hbox); have n4_ := Aside0.mk ((by rw [hg]; exact (below_size (by repeat (first | (with_reducible first | exact HB.out | apply below_alloc | apply pw_below_drewN | apply below_drew1 | refine below_set ?_ GE1043.out | refine below_set ?_ GE1044.out) | exact HB.out))) : w.heap.size ≤ gb1045)); have n5_ := Aside0.mk ((by rw [hg]; exact (below_size (by repeat (first | (with_reducible first | exact HB.out | apply below_alloc | apply pw_below_drewN | apply below_drew1 | refine below_set ?_ GE1043.out | refine below_set ?_ GE1044.out) | exact HB.out))) : w.heap.size ≤ gb1045)); have n6_ := Aside0.mk ((by rw [hg]; exact Nat.ne_of_lt (blk_lt (g := gb1043) (o := .cells #[.int .i64 a0_0, .int .i64 a0_1] 71 (0, 0)) (by (with_reducible repeat (first | refine blk_drewN ?_ _ | refine blk_drew ?_ | refine blk_alloc ?_ _)); exact BK1043.out)) : gb1043 ≠ gb1045)); have n7_ := Aside0.mk ((by rw [hg]; exact Nat.ne_of_gt (blk_lt (g := gb1043) (o := .cells #[.int .i64 a0_0, .int .i64 a0_1] 71 (0, 0)) (by (with_reducible repeat (first | refine blk_drewN ?_ _ | refine blk_drew ?_ | refine blk_alloc ?_ _)); exact BK1043.out)) : gb1045 ≠ gb1043)); have n8_ := Aside0.mk ((by rw [hg]; exact Nat.ne_of_lt (blk_lt (g := gb1044) (o := .cells #[.int .i64 0, .int .i64 0] 65 (0, 0)) (by (with_reducible repeat (first | refine blk_drewN ?_ _ | refine blk_drew ?_ | refine blk_alloc ?_ _)); exact BK1044.out)) : gb1044 ≠ gb1045)); have n9_ := Aside0.mk ((by rw [hg]; exact Nat.ne_of_gt (blk_lt (g := gb1044) (o := .cells #[.int .i64 0, .int .i64 0] 65 (0, 0)) (by (with_reducible repeat (first | refine blk_drewN ?_ _ | refine blk_drew ?_ | refine blk_alloc ?_ _)); exact BK1044.out)) : gb1045 ≠ gb1044)); clear BK1043; clear BK1044; clear HB; have BK1043 := n0_; have BK1044 := n1_; have HB := n2_; have BK1045 := n3_; have GW1045 := n4_; have GE1045 := n5_; have NB1043_1045 := n6_; have NB1045_1043 := n7_; have NB1044_1045 := n8_; have NB1045_1044 := n9_; clear n0_ n1_ n2_ n3_ n4_ n5_ n6_ n7_ n8_ n9_; clear hb hbox hg; have hnb5 := NB1043_1044.out; have hnc5 := NB1044_1043.out; have hnb6 := NB1043_1045.out; have hnc6 := NB1045_1043.out; have hcz7_0 : w4.cell? ⟨gb1043, 0, none⟩ = some (.int .i64 a0_0) := (blk_cell BK1043.out 0).trans rfl; have hcz7_1 : w4.cell? ⟨gb1043, 1, none⟩ = some (.int .i64 a0_1) := (blk_cell BK1043.out 1).trans rfl; have hfz7_0 := blk_frozen BK1043.out 0; have hfz7_1 := blk_frozen BK1043.out 1; have hnb8 := NB1045_1044.out; have hnc8 := NB1044_1045.out; have hcz9_0 : w4.cell? ⟨gb1045, 0, none⟩ = some (.int .i64 0) := (blk_cell BK1045.out 0).trans rfl; have hcz9_1 : w4.cell? ⟨gb1045, 1, none⟩ = some (.int .i64 0) := (blk_cell BK1045.out 1).trans rfl; have hfz9_0 := blk_frozen BK1045.out 0; have hfz9_1 := blk_frozen BK1045.out 1; have hcz10_0 : w4.cell? ⟨gb1044, 0, none⟩ = some (.int .i64 0) := (blk_cell BK1044.out 0).trans rfl; have hcz10_1 : w4.cell? ⟨gb1044, 1, none⟩ = some (.int .i64 0) := (blk_cell BK1044.out 1).trans rfl; have hfz10_0 := blk_frozen BK1044.out 0; have hfz10_1 := blk_frozen BK1044.out 1))
 refine bodyPost_ret (results_cell_row rfl _ _ gb1044 65 #[.int .i64 a0_0, .int .i64 a0_1] (0, 0) _ rfl (by (with_reducible repeat (first | refine blk_drewN ?_ _ | refine blk_drew ?_ | refine blk_alloc ?_ _)); refine blk_put (cs := #[.int .i64 a0_0, .int .i64 0]) ?_ 1 _ rfl; (with_reducible repeat (first | refine blk_drewN ?_ _ | refine blk_drew ?_ | refine blk_alloc ?_ _)); refine blk_put (cs := #[.int .i64 0, .int .i64 0]) ?_ 0 _ rfl; (with_reducible repeat (first | refine blk_drewN ?_ _ | refine blk_drew ?_ | refine blk_alloc ?_ _)); refine blk_far ?_ NB1044_1045.out _; (with_reducible repeat (first | refine blk_drewN ?_ _ | refine blk_drew ?_ | refine blk_alloc ?_ _)); refine blk_far ?_ NB1044_1045.out _; (with_reducible repeat (first | refine blk_drewN ?_ _ | refine blk_drew ?_ | refine blk_alloc ?_ _)); exact BK1044.out) Try.underlying65 rfl (by kernel_rfl)) rfl ?_
 exact ⟨by first | rfl | (simp [errW_none, errW_some] <;> rfl) | (simp [*, errW_none, errW_some] <;> rfl), by repeat (first | (with_reducible first | exact HB.out | apply below_alloc | apply pw_below_drewN | apply below_drew1 | refine below_set ?_ GE1043.out | refine below_set ?_ GE1044.out | refine below_set ?_ GE1045.out) | exact HB.out)⟩
end Go.Proofs.Ytcjjmfpkhhdmlaa.G

namespace Go.Proofs.Ytcjjmfpkhhdmlaa.G
open Go.RowKit Go.Proofs.YtcjjmfpkhhdmlaaW.PrintWords Go.Proofs.YtcjjmfpkhhdmlaaW.PrintLast Go.Proofs.YtcjjmfpkhhdmlaaW.PrintMore
attribute [local go_sem] max2_int min2_int max_two min_two max_three min_three max_four min_four   -- for this text's walks alone
/-! ### laws_toFeed: function 66 -/
def laws_toFeed.f (k : Nat) (l0_0 : List Int) (a0_1 : Int) (a0_2 : Bool) (a0_3 : Int) (a0_4 : Int) : Option (List Int × Int × Bool × Int × Int) := (laws_toByteS.f k l0_0).bind fun t => some (t, a0_1, a0_2, a0_3, a0_4)
theorem laws_toFeed.mono : ∀ a0 a1 a2 a3 a4 k, LeO (laws_toFeed.f k a0 a1 a2 a3 a4) (laws_toFeed.f (k + 1) a0 a1 a2 a3 a4) := by
 intro a0 a1 a2 a3 a4 k
 unfold laws_toFeed.f
 exact LeO.bind (laws_toByteS.mono _ _) (fun _ => LeO.refl _)
set_option maxRecDepth 100000 in
theorem laws_toFeed.calls (k : Nat) (A0_0 : Option Addr) (c0_0 : Nat) (l0_0 : List Int) (a0_1 : Int) (a0_2 : Bool) (a0_3 : Int) (a0_4 : Int) (r1 : List Int) (r2 : Int) (r3 : Bool) (r4 : Int) (r5 : Int) (w : World) (hr0_0 : Kd.C (Kd.int .u8) w A0_0 l0_0.length l0_0) (hc0_0 : l0_0.length ≤ c0_0) (h : laws_toFeed.f k l0_0 a0_1 a0_2 a0_3 a0_4 = some (r1, r2, r3, r4, r5)) :
  Calls Try.prog 66 #[.agg #[.slice A0_0 l0_0.length c0_0, .int .i64 a0_1, .bool a0_2, .int .i64 a0_3, .int .i64 a0_4]] w fun e w' => ∃ v0_ : Value, e = .returned (.agg #[v0_, .int .i64 r2, .bool r3, .int .i64 r4, .int .i64 r5]) ∧ Kd.R (Kd.int .u8) 5 w' w.heap.size (fun _ => True) v0_ r1 ∧ Below w.heap.size w w' := by
 unfold laws_toFeed.f at h
 obtain ⟨t, ht, h⟩ := Option.bind_eq_some_iff.1 h
 simp only [Option.some.injEq, Prod.mk.injEq] at h
 obtain ⟨rfl, rfl, rfl, rfl, rfl⟩ := h
 have HE := Aside0.mk ht
 have HR0 := Aside0.mk hr0_0
 have HC0 := Aside0.mk hc0_0
 clear ht hr0_0 hc0_0
 go_enter Try.func66, Try.ntmps66
 go_upto_region 2 with (fail)
 have hq1 := blk_alloc (blk_alloc (blk_new w (Obj.cells #[.slice A0_0 l0_0.length c0_0, .int .i64 a0_1, .bool a0_2, .int .i64 a0_3, .int .i64 a0_4] 73)) (Obj.cells #[.slice none 0 0, .int .i64 0, .bool false, .int .i64 0, .int .i64 0] 77)) (Obj.cells #[.slice none 0 0, .int .i64 0, .bool false, .int .i64 0, .int .i64 0] 77)
 have hq2 := blk_alloc (blk_new (w.alloc (Obj.cells #[.slice A0_0 l0_0.length c0_0, .int .i64 a0_1, .bool a0_2, .int .i64 a0_3, .int .i64 a0_4] 73)) (Obj.cells #[.slice none 0 0, .int .i64 0, .bool false, .int .i64 0, .int .i64 0] 77)) (Obj.cells #[.slice none 0 0, .int .i64 0, .bool false, .int .i64 0, .int .i64 0] 77)
 have hq3 := blk_new ((w.alloc (Obj.cells #[.slice A0_0 l0_0.length c0_0, .int .i64 a0_1, .bool a0_2, .int .i64 a0_3, .int .i64 a0_4] 73)).alloc (Obj.cells #[.slice none 0 0, .int .i64 0, .bool false, .int .i64 0, .int .i64 0] 77)) (Obj.cells #[.slice none 0 0, .int .i64 0, .bool false, .int .i64 0, .int .i64 0] 77)
 rw [World.size_alloc] at hq2
 rw [World.size_alloc, World.size_alloc] at hq3
 have HB1 := Aside0.mk (below_alloc (below_alloc (below_alloc (Below.refl w.heap.size w) (Obj.cells #[.slice A0_0 l0_0.length c0_0, .int .i64 a0_1, .bool a0_2, .int .i64 a0_3, .int .i64 a0_4] 73)) (Obj.cells #[.slice none 0 0, .int .i64 0, .bool false, .int .i64 0, .int .i64 0] 77)) (Obj.cells #[.slice none 0 0, .int .i64 0, .bool false, .int .i64 0, .int .i64 0] 77))
 have hn : w.heap.size ≠ w.heap.size + 1 + 1 := by omega
 have hn2 : w.heap.size + 1 ≠ w.heap.size + 1 + 1 := by omega
 have hl2 : w.heap.size ≤ w.heap.size + 1 := by omega
 have hl3 : w.heap.size ≤ w.heap.size + 1 + 1 := by omega
 generalize w.heap.size + 1 + 1 = g3 at hq3 hn hn2 hl3 ⊢
 generalize w.heap.size + 1 = g2 at hq2 hn2 hl2 ⊢
 have HL2 := Aside0.mk hl2
 have HL3 := Aside0.mk hl3
 clear hl2 hl3
 generalize w.heap.size = g1 at hq1 hn ⊢
 generalize ((w.alloc (Obj.cells #[.slice A0_0 l0_0.length c0_0, .int .i64 a0_1, .bool a0_2, .int .i64 a0_3, .int .i64 a0_4] 73)).alloc (Obj.cells #[.slice none 0 0, .int .i64 0, .bool false, .int .i64 0, .int .i64 0] 77)).alloc (Obj.cells #[.slice none 0 0, .int .i64 0, .bool false, .int .i64 0, .int .i64 0] 77) = W1 at hq1 hq2 hq3 HB1 ⊢
 have HQ1 := Aside0.mk hq1
 have HQ2 := Aside0.mk hq2
 have HQ3 := Aside0.mk hq3
 have p0 := blk_cell hq1 0
 simp at p0
 clear hq1 hq2 hq3
 go_wp2_with fail
 refine (laws_toByteS.calls k A0_0 c0_0 l0_0 t _ (Kd.C_below HR0.out HB1.out) HC0.out HE.out).mono ?_
 rintro e_ w2 ⟨v, rfl, ho, hb2⟩
 obtain ⟨A2, c2, e2⟩ := Kd.R_slice ho
 subst e2
 have HO := Aside0.mk (Kd.R_lower ho HB1.out.size)
 have HQ4 := Aside0.mk (blk_below HQ1.out hb2)
 have HQ5 := Aside0.mk (blk_below HQ2.out hb2)
 have HQ6 := Aside0.mk (blk_below HQ3.out hb2)
 have HB2 := Aside0.mk (Below.trans HB1.out (hb2.mono HB1.out.size))
 clear hb2 ho p0 HQ1 HQ2 HQ3
 have p0 := blk_cell HQ4.out 0
 have p1 := blk_cell HQ4.out 1
 have p2 := blk_cell HQ4.out 2
 have p3 := blk_cell HQ4.out 3
 have p4 := blk_cell HQ4.out 4
 simp at p0 p1 p2 p3 p4
 have u0 := blk_cell HQ6.out 0
 have u1 := blk_cell HQ6.out 1
 have u2 := blk_cell HQ6.out 2
 have u3 := blk_cell HQ6.out 3
 have u4 := blk_cell HQ6.out 4
 simp at u0 u1 u2 u3 u4
 have f0 := blk_frozen HQ6.out 0
 have f1 := blk_frozen HQ6.out 1
 have f2 := blk_frozen HQ6.out 2
 have f3 := blk_frozen HQ6.out 3
 have f4 := blk_frozen HQ6.out 4
 have hn' : g3 ≠ g1 := fun e => hn e.symm
 go_upto_region 5 with (fail)
 have HQ7 := Aside0.mk (blk_set (blk_set (blk_set HQ6.out 0 (.slice A2 t.length c2)) 1 (.int .i64 a0_1)) 2 (.bool a0_2))
 have HQ8 := Aside0.mk (blk_far (p := ⟨g3, 2, none⟩) (blk_far (p := ⟨g3, 1, none⟩) (blk_far (p := ⟨g3, 0, none⟩) HQ4.out hn (.slice A2 t.length c2)) hn (.int .i64 a0_1)) hn (.bool a0_2))
 have HQ9 := Aside0.mk (blk_far (p := ⟨g3, 2, none⟩) (blk_far (p := ⟨g3, 1, none⟩) (blk_far (p := ⟨g3, 0, none⟩) HQ5.out hn2 (.slice A2 t.length c2)) hn2 (.int .i64 a0_1)) hn2 (.bool a0_2))
 have HO2 := Aside0.mk (Kd.R_set (Kd.R_set (Kd.R_set HO.out HQ6.out (by decide) 0 (.slice A2 t.length c2)) (blk_set HQ6.out 0 (.slice A2 t.length c2)) (by decide) 1 (.int .i64 a0_1)) (blk_set (blk_set HQ6.out 0 (.slice A2 t.length c2)) 1 (.int .i64 a0_1)) (by decide) 2 (.bool a0_2))
 have HB3 := Aside0.mk (below_set (g := g3) (j := 2) (v := .bool a0_2) (below_set (g := g3) (j := 1) (v := .int .i64 a0_1) (below_set (g := g3) (j := 0) (v := .slice A2 t.length c2) HB2.out HL3.out) HL3.out) HL3.out)
 generalize ((w2.setCell ⟨g3, 0, none⟩ (.slice A2 t.length c2)).setCell ⟨g3, 1, none⟩ (.int .i64 a0_1)).setCell ⟨g3, 2, none⟩ (.bool a0_2) = W3 at HQ7 HQ8 HQ9 HO2 HB3 ⊢
 clear p0 p1 p2 p3 p4 u0 u1 u2 u3 u4 f0 f1 f2 f3 f4 HQ4 HQ5 HQ6 HO HB2
 have p3 := blk_cell HQ8.out 3
 have p4 := blk_cell HQ8.out 4
 simp at p3 p4
 go_wp2_with fail
 refine (laws_toFault.calls a0_3 a0_4 a0_3 a0_4 _ rfl).mono ?_
 rintro e_ w4 ⟨rfl, hb4⟩
 have HQ10 := Aside0.mk (blk_below HQ7.out hb4)
 have HQ11 := Aside0.mk (blk_below HQ9.out hb4)
 have HO3 := Aside0.mk (Kd.R_below HO2.out hb4)
 have HB4 := Aside0.mk (Below.trans HB3.out (hb4.mono HB3.out.size))
 clear hb4 p3 p4
 have u0 := blk_cell HQ10.out 0
 have u1 := blk_cell HQ10.out 1
 have u2 := blk_cell HQ10.out 2
 have u3 := blk_cell HQ10.out 3
 have u4 := blk_cell HQ10.out 4
 simp at u0 u1 u2 u3 u4
 have f0 := blk_frozen HQ10.out 0
 have f1 := blk_frozen HQ10.out 1
 have f2 := blk_frozen HQ10.out 2
 have f3 := blk_frozen HQ10.out 3
 have f4 := blk_frozen HQ10.out 4
 have p0 := blk_cell HQ11.out 0
 have p1 := blk_cell HQ11.out 1
 have p2 := blk_cell HQ11.out 2
 have p3 := blk_cell HQ11.out 3
 have p4 := blk_cell HQ11.out 4
 simp at p0 p1 p2 p3 p4
 have j0 := blk_frozen HQ11.out 0
 have j1 := blk_frozen HQ11.out 1
 have j2 := blk_frozen HQ11.out 2
 have j3 := blk_frozen HQ11.out 3
 have j4 := blk_frozen HQ11.out 4
 go_wp2
 have e0 := (blk_far (p := ⟨g3, 4, none⟩) (blk_far (p := ⟨g3, 3, none⟩) HQ11.out hn2 (.int .i64 a0_3)) hn2 (.int .i64 a0_4))
 have r0 := (Kd.R_set (Kd.R_set HO3.out HQ10.out (by decide) 3 (.int .i64 a0_3)) (blk_set HQ10.out 3 (.int .i64 a0_3)) (by decide) 4 (.int .i64 a0_4))
 refine bodyPost_ret (results_cell_row rfl _ _ g2 77 #[.slice A2 t.length c2, .int .i64 a0_1, .bool a0_2, .int .i64 a0_3, .int .i64 a0_4] (0, 0) _ rfl (by exact (blk_set (blk_set (blk_set (blk_set (blk_set e0 0 (.slice A2 t.length c2)) 1 (.int .i64 a0_1)) 2 (.bool a0_2)) 3 (.int .i64 a0_3)) 4 (.int .i64 a0_4))) Try.underlying77 rfl (by kernel_rfl)) rfl ?_
 exact ⟨_, rfl, (Kd.R_set (Kd.R_set (Kd.R_set (Kd.R_set (Kd.R_set r0 e0 (by decide) 0 (.slice A2 t.length c2)) (blk_set e0 0 (.slice A2 t.length c2)) (by decide) 1 (.int .i64 a0_1)) (blk_set (blk_set e0 0 (.slice A2 t.length c2)) 1 (.int .i64 a0_1)) (by decide) 2 (.bool a0_2)) (blk_set (blk_set (blk_set e0 0 (.slice A2 t.length c2)) 1 (.int .i64 a0_1)) 2 (.bool a0_2)) (by decide) 3 (.int .i64 a0_3)) (blk_set (blk_set (blk_set (blk_set e0 0 (.slice A2 t.length c2)) 1 (.int .i64 a0_1)) 2 (.bool a0_2)) 3 (.int .i64 a0_3)) (by decide) 4 (.int .i64 a0_4)), (below_set (below_set (below_set (below_set (below_set (below_set (below_set HB4.out HL3.out) HL3.out) HL2.out) HL2.out) HL2.out) HL2.out) HL2.out)⟩
theorem toFeed_ev (l : List Int) (n : Int) (o : Bool) (fc fa : Int) (h : l.length ≤ 1048576) : Ev (fun k => laws_toFeed.f k l n o fc fa) (l, n, o, fc, fa) := by
 unfold laws_toFeed.f
 exact Ev.bind (laws_toByteS.E l h) (Ev.now _)
end Go.Proofs.Ytcjjmfpkhhdmlaa.G

namespace Go.Proofs.Ytcjjmfpkhhdmlaa.G
open Go.RowKit Go.Proofs.YtcjjmfpkhhdmlaaW.PrintWords Go.Proofs.YtcjjmfpkhhdmlaaW.PrintLast Go.Proofs.YtcjjmfpkhhdmlaaW.PrintMore
attribute [local go_sem] max2_int min2_int max_two min_two max_three min_three max_four min_four   -- for this text's walks alone
/-! ### laws_eqFault: function 61 -/
def laws_eqFault.f (a0_0 : Int) (a0_1 : Int) (a1_0 : Int) (a1_1 : Int) : Option (Bool) := if a0_0 = a1_0 then (if a0_1 = a1_1 then (some true) else (some false)) else (some false)
set_option maxHeartbeats 8000000 in
set_option maxRecDepth 100000 in
theorem laws_eqFault.calls (a0_0 : Int) (a0_1 : Int) (a1_0 : Int) (a1_1 : Int) (r : Bool) (w : World) (h : laws_eqFault.f a0_0 a0_1 a1_0 a1_1 = some r) :
  Calls Try.prog 61 #[.agg #[.int .i64 a0_0, .int .i64 a0_1], .agg #[.int .i64 a1_0, .int .i64 a1_1]] w fun e w' => e = .returned (.bool r) ∧ Below w.heap.size w w' := by
 have hu65 := Try.underlying65
 have HB := Aside0.mk (Below.refl w.heap.size w)
 have H : (if a0_0 = a1_0 then (if a0_1 = a1_1 then (some true) else (some false)) else (some false)) = some r := h
 clear h
 by_cases c3 : a0_0 = a1_0
 ·rw [if_pos c3] at H
  have c3b0 : (a0_0 == a1_0) = true := beq_iff_eq.mpr c3
  have c3b1 : (a0_0 != a1_0) = false := bne_eq_false_iff_eq.mpr c3
  clear c3
  by_cases c4 : a0_1 = a1_1
  ·rw [if_pos c4] at H
   have c4b0 : (a0_1 == a1_1) = true := beq_iff_eq.mpr c4
   have c4b1 : (a0_1 != a1_1) = false := bne_eq_false_iff_eq.mpr c4
   clear c4
   obtain rfl := Option.some.inj H
   go_enter Try.func61, Try.ntmps61
   go_wp2_with (first | ((with_reducible refine gate_dst (N := 2) rfl ?_); refine box_event ?hg (N := 2) ?hd (cs := #[.int .i64 a0_0, .int .i64 a0_1]) (t := 65) ?hr ?_; (case hd => rfl); (case hg => rfl); (case hr => first | (go_simp; done) | (go_simp; rfl)); intro gb1012 hg w5 hbox hb; have n0_ := Aside0.mk (below_step (by repeat (first | (with_reducible first | exact HB.out | apply below_alloc | apply pw_below_drewN | apply below_drew1) | exact HB.out)) hb); have n1_ := Aside0.mk (hbox); have n2_ := Aside0.mk ((by rw [hg]; exact (below_size (by repeat (first | (with_reducible first | exact HB.out | apply below_alloc | apply pw_below_drewN | apply below_drew1) | exact HB.out))) : w.heap.size ≤ gb1012)); have n3_ := Aside0.mk ((by rw [hg]; exact (below_size (by repeat (first | (with_reducible first | exact HB.out | apply below_alloc | apply pw_below_drewN | apply below_drew1) | exact HB.out))) : w.heap.size ≤ gb1012)); clear HB; have HB := n0_; have BK1012 := n1_; have GW1012 := n2_; have GE1012 := n3_; clear n0_ n1_ n2_ n3_; clear hb hbox hg) | ((with_reducible refine gate_dst (N := 3) rfl ?_); refine box_event ?hg (N := 3) ?hd (cs := #[.int .i64 a1_0, .int .i64 a1_1]) (t := 65) ?hr ?_; (case hd => rfl); (case hg => rfl); (case hr => first | (go_simp; done) | (go_simp; rfl)); intro gb1013 hg w6 hbox hb; have n0_ := Aside0.mk (blk_below (g := gb1012) (o := .cells #[.int .i64 a0_0, .int .i64 a0_1] 65 (0, 0)) (by (with_reducible repeat (first | refine blk_drewN ?_ _ | refine blk_drew ?_ | refine blk_alloc ?_ _)); exact BK1012.out) hb); have n1_ := Aside0.mk (below_step (by repeat (first | (with_reducible first | exact HB.out | apply below_alloc | apply pw_below_drewN | apply below_drew1 | refine below_set ?_ GE1012.out) | exact HB.out)) hb); have n2_ := Aside0.mk (hbox); have n3_ := Aside0.mk ((by rw [hg]; exact (below_size (by repeat (first | (with_reducible first | exact HB.out | apply below_alloc | apply pw_below_drewN | apply below_drew1 | refine below_set ?_ GE1012.out) | exact HB.out))) : w.heap.size ≤ gb1013)); have n4_ := Aside0.mk ((by rw [hg]; exact (below_size (by repeat (first | (with_reducible first | exact HB.out | apply below_alloc | apply pw_below_drewN | apply below_drew1 | refine below_set ?_ GE1012.out) | exact HB.out))) : w.heap.size ≤ gb1013)); have n5_ := Aside0.mk ((by rw [hg]; exact Nat.ne_of_lt (blk_lt (g := gb1012) (o := .cells #[.int .i64 a0_0, .int .i64 a0_1] 65 (0, 0)) (by (with_reducible repeat (first | refine blk_drewN ?_ _ | refine blk_drew ?_ | refine blk_alloc ?_ _)); exact BK1012.out)) : gb1012 ≠ gb1013)); have n6_ := Aside0.mk ((by rw [hg]; exact Nat.ne_of_gt (blk_lt (g := gb1012) (o := .cells #[.int .i64 a0_0, .int .i64 a0_1] 65 (0, 0)) (by (with_reducible repeat (first | refine blk_drewN ?_ _ | refine blk_drew ?_ | refine blk_alloc ?_ _)); exact BK1012.out)) : gb1013 ≠ gb1012)); clear BK1012; clear HB; have BK1012 := n0_; have HB := n1_; have BK1013 := n2_; have GW1013 := n3_; have GE1013 := n4_; have NB1012_1013 := n5_; have NB1013_1012 := n6_; clear n0_ n1_ n2_ n3_ n4_ n5_ n6_; clear hb hbox hg; have hnb7 := NB1012_1013.out; have hnc7 := NB1013_1012.out; have hcz8_0 : w6.cell? ⟨gb1012, 0, none⟩ = some (.int .i64 a0_0) := (blk_cell BK1012.out 0).trans rfl; have hcz8_1 : w6.cell? ⟨gb1012, 1, none⟩ = some (.int .i64 a0_1) := (blk_cell BK1012.out 1).trans rfl; have hfz8_0 := blk_frozen BK1012.out 0; have hfz8_1 := blk_frozen BK1012.out 1; have hcz9_0 : w6.cell? ⟨gb1013, 0, none⟩ = some (.int .i64 a1_0) := (blk_cell BK1013.out 0).trans rfl; have hcz9_1 : w6.cell? ⟨gb1013, 1, none⟩ = some (.int .i64 a1_1) := (blk_cell BK1013.out 1).trans rfl; have hfz9_0 := blk_frozen BK1013.out 0; have hfz9_1 := blk_frozen BK1013.out 1))
   go_ret
   exact ⟨by first | rfl | (simp [errW_none, errW_some] <;> rfl) | (simp [*, errW_none, errW_some] <;> rfl), by repeat (first | (with_reducible first | exact HB.out | apply below_alloc | apply pw_below_drewN | apply below_drew1 | refine below_set ?_ GE1012.out | refine below_set ?_ GE1013.out) | exact HB.out)⟩
  ·rw [if_neg c4] at H
   have c4b0 : (a0_1 == a1_1) = false := beq_eq_false_iff_ne.mpr c4
   have c4b1 : (a0_1 != a1_1) = true := bne_iff_ne.mpr c4
   obtain rfl := Option.some.inj H
   go_enter Try.func61, Try.ntmps61
   go_wp2_with (first | ((with_reducible refine gate_dst (N := 2) rfl ?_); refine box_event ?hg (N := 2) ?hd (cs := #[.int .i64 a0_0, .int .i64 a0_1]) (t := 65) ?hr ?_; (case hd => rfl); (case hg => rfl); (case hr => first | (go_simp; done) | (go_simp; rfl)); intro gb1012 hg w10 hbox hb; have n0_ := Aside0.mk (below_step (by repeat (first | (with_reducible first | exact HB.out | apply below_alloc | apply pw_below_drewN | apply below_drew1) | exact HB.out)) hb); have n1_ := Aside0.mk (hbox); have n2_ := Aside0.mk ((by rw [hg]; exact (below_size (by repeat (first | (with_reducible first | exact HB.out | apply below_alloc | apply pw_below_drewN | apply below_drew1) | exact HB.out))) : w.heap.size ≤ gb1012)); have n3_ := Aside0.mk ((by rw [hg]; exact (below_size (by repeat (first | (with_reducible first | exact HB.out | apply below_alloc | apply pw_below_drewN | apply below_drew1) | exact HB.out))) : w.heap.size ≤ gb1012)); clear HB; have HB := n0_; have BK1012 := n1_; have GW1012 := n2_; have GE1012 := n3_; clear n0_ n1_ n2_ n3_; clear hb hbox hg) | ((with_reducible refine gate_dst (N := 3) rfl ?_); refine box_event ?hg (N := 3) ?hd (cs := #[.int .i64 a1_0, .int .i64 a1_1]) (t := 65) ?hr ?_; (case hd => rfl); (case hg => rfl); (case hr => first | (go_simp; done) | (go_simp; rfl)); intro gb1013 hg w11 hbox hb; have n0_ := Aside0.mk (blk_below (g := gb1012) (o := .cells #[.int .i64 a0_0, .int .i64 a0_1] 65 (0, 0)) (by (with_reducible repeat (first | refine blk_drewN ?_ _ | refine blk_drew ?_ | refine blk_alloc ?_ _)); exact BK1012.out) hb); have n1_ := Aside0.mk (below_step (by repeat (first | (with_reducible first | exact HB.out | apply below_alloc | apply pw_below_drewN | apply below_drew1 | refine below_set ?_ GE1012.out) | exact HB.out)) hb); have n2_ := Aside0.mk (hbox); have n3_ := Aside0.mk ((by rw [hg]; exact (below_size (by repeat (first | (with_reducible first | exact HB.out | apply below_alloc | apply pw_below_drewN | apply below_drew1 | refine below_set ?_ GE1012.out) | exact HB.out))) : w.heap.size ≤ gb1013)); have n4_ := Aside0.mk ((by rw [hg]; exact (below_size (by repeat (first | (with_reducible first | exact HB.out | apply below_alloc | apply pw_below_drewN | apply below_drew1 | refine below_set ?_ GE1012.out) | exact HB.out))) : w.heap.size ≤ gb1013)); have n5_ := Aside0.mk ((by rw [hg]; exact Nat.ne_of_lt (blk_lt (g := gb1012) (o := .cells #[.int .i64 a0_0, .int .i64 a0_1] 65 (0, 0)) (by (with_reducible repeat (first | refine blk_drewN ?_ _ | refine blk_drew ?_ | refine blk_alloc ?_ _)); exact BK1012.out)) : gb1012 ≠ gb1013)); have n6_ := Aside0.mk ((by rw [hg]; exact Nat.ne_of_gt (blk_lt (g := gb1012) (o := .cells #[.int .i64 a0_0, .int .i64 a0_1] 65 (0, 0)) (by (with_reducible repeat (first | refine blk_drewN ?_ _ | refine blk_drew ?_ | refine blk_alloc ?_ _)); exact BK1012.out)) : gb1013 ≠ gb1012)); clear BK1012; clear HB; have BK1012 := n0_; have HB := n1_; have BK1013 := n2_; have GW1013 := n3_; have GE1013 := n4_; have NB1012_1013 := n5_; have NB1013_1012 := n6_; clear n0_ n1_ n2_ n3_ n4_ n5_ n6_; clear hb hbox hg; have hnb12 := NB1012_1013.out; have hnc12 := NB1013_1012.out; have hcz13_0 : w11.cell? ⟨gb1012, 0, none⟩ = some (.int .i64 a0_0) := (blk_cell BK1012.out 0).trans rfl; have hcz13_1 : w11.cell? ⟨gb1012, 1, none⟩ = some (.int .i64 a0_1) := (blk_cell BK1012.out 1).trans rfl; have hfz13_0 := blk_frozen BK1012.out 0; have hfz13_1 := blk_frozen BK1012.out 1; have hcz14_0 : w11.cell? ⟨gb1013, 0, none⟩ = some (.int .i64 a1_0) := (blk_cell BK1013.out 0).trans rfl; have hcz14_1 : w11.cell? ⟨gb1013, 1, none⟩ = some (.int .i64 a1_1) := (blk_cell BK1013.out 1).trans rfl; have hfz14_0 := blk_frozen BK1013.out 0; have hfz14_1 := blk_frozen BK1013.out 1))
   go_ret
   exact ⟨by first | rfl | (simp [errW_none, errW_some] <;> rfl) | (simp [*, errW_none, errW_some] <;> rfl), by repeat (first | (with_reducible first | exact HB.out | apply below_alloc | apply pw_below_drewN | apply below_drew1 | refine below_set ?_ GE1012.out | refine below_set ?_ GE1013.out) | exact HB.out)⟩
 ·rw [if_neg c3] at H
  have c3b0 : (a0_0 == a1_0) = false := beq_eq_false_iff_ne.mpr c3
  have c3b1 : (a0_0 != a1_0) = true := bne_iff_ne.mpr c3
  obtain rfl := Option.some.inj H
  go_enter Try.func61, Try.ntmps61
  go_wp2_with (first | ((with_reducible refine gate_dst (N := 2) rfl ?_); refine box_event ?hg (N := 2) ?hd (cs := #[.int .i64 a0_0, .int .i64 a0_1]) (t := 65) ?hr ?_; (case hd => rfl); (case hg => rfl); (case hr => first | (go_simp; done) | (go_simp; rfl)); intro gb1012 hg w15 hbox hb; have n0_ := Aside0.mk (below_step (by repeat (first | (with_reducible first | exact HB.out | apply below_alloc | apply pw_below_drewN | apply below_drew1) | exact HB.out)) hb); have n1_ := Aside0.mk (hbox); have n2_ := Aside0.mk ((by rw [hg]; exact (below_size (by repeat (first | (with_reducible first | exact HB.out | apply below_alloc | apply pw_below_drewN | apply below_drew1) | exact HB.out))) : w.heap.size ≤ gb1012)); have n3_ := Aside0.mk ((by rw [hg]; exact (below_size (by repeat (first | (with_reducible first | exact HB.out | apply below_alloc | apply pw_below_drewN | apply below_drew1) | exact HB.out))) : w.heap.size ≤ gb1012)); clear HB; have HB := n0_; have BK1012 := n1_; have GW1012 := n2_; have GE1012 := n3_; clear n0_ n1_ n2_ n3_; clear hb hbox hg) | ((with_reducible refine gate_dst (N := 3) rfl ?_); refine box_event ?hg (N := 3) ?hd (cs := #[.int .i64 a1_0, .int .i64 a1_1]) (t := 65) ?hr ?_; (case hd => rfl); (case hg => rfl); (case hr => first | (go_simp; done) | (go_simp; rfl)); intro gb1013 hg w16 hbox hb; have n0_ := Aside0.mk (blk_below (g := gb1012) (o := .cells #[.int .i64 a0_0, .int .i64 a0_1] 65 (0, 0)) (by (with_reducible repeat (first | refine blk_drewN ?_ _ | refine blk_drew ?_ | refine blk_alloc ?_ _)); exact BK1012.out) hb); have n1_ := Aside0.mk (below_step (by repeat (first | (with_reducible first | exact HB.out | apply below_alloc | apply pw_below_drewN | apply below_drew1 | refine below_set ?_ GE1012.out) | exact HB.out)) hb); have n2_ := Aside0.mk (hbox); have n3_ := Aside0.mk ((by rw [hg]; exact (below_size (by repeat (first | (with_reducible first | exact HB.out | apply below_alloc | apply pw_below_drewN | apply below_drew1 | refine below_set ?_ GE1012.out) | exact HB.out))) : w.heap.size ≤ gb1013)); have n4_ := Aside0.mk ((by rw [hg]; exact (below_size (by repeat (first | (with_reducible first | exact HB.out | apply below_alloc | apply pw_below_drewN | apply below_drew1 | refine below_set ?_ GE1012.out) | exact HB.out))) : w.heap.size ≤ gb1013)); have n5_ := Aside0.mk ((by rw [hg]; exact Nat.ne_of_lt (blk_lt (g := gb1012) (o := .cells #[.int .i64 a0_0, .int .i64 a0_1] 65 (0, 0)) (by (with_reducible repeat (first | refine blk_drewN ?_ _ | refine blk_drew ?_ | refine blk_alloc ?_ _)); exact BK1012.out)) : gb1012 ≠ gb1013)); have n6_ := Aside0.mk ((by rw [hg]; exact Nat.ne_of_gt (blk_lt (g := gb1012) (o := .cells #[.int .i64 a0_0, .int .i64 a0_1] 65 (0, 0)) (by (with_reducible repeat (first | refine blk_drewN ?_ _ | refine blk_drew ?_ | refine blk_alloc ?_ _)); exact BK1012.out)) : gb1013 ≠ gb1012)); clear BK1012; clear HB; have BK1012 := n0_; have HB := n1_; have BK1013 := n2_; have GW1013 := n3_; have GE1013 := n4_; have NB1012_1013 := n5_; have NB1013_1012 := n6_; clear n0_ n1_ n2_ n3_ n4_ n5_ n6_; clear hb hbox hg; have hnb17 := NB1012_1013.out; have hnc17 := NB1013_1012.out; have hcz18_0 : w16.cell? ⟨gb1012, 0, none⟩ = some (.int .i64 a0_0) := (blk_cell BK1012.out 0).trans rfl; have hcz18_1 : w16.cell? ⟨gb1012, 1, none⟩ = some (.int .i64 a0_1) := (blk_cell BK1012.out 1).trans rfl; have hfz18_0 := blk_frozen BK1012.out 0; have hfz18_1 := blk_frozen BK1012.out 1; have hcz19_0 : w16.cell? ⟨gb1013, 0, none⟩ = some (.int .i64 a1_0) := (blk_cell BK1013.out 0).trans rfl; have hcz19_1 : w16.cell? ⟨gb1013, 1, none⟩ = some (.int .i64 a1_1) := (blk_cell BK1013.out 1).trans rfl; have hfz19_0 := blk_frozen BK1013.out 0; have hfz19_1 := blk_frozen BK1013.out 1))
  go_ret
  exact ⟨by first | rfl | (simp [errW_none, errW_some] <;> rfl) | (simp [*, errW_none, errW_some] <;> rfl), by repeat (first | (with_reducible first | exact HB.out | apply below_alloc | apply pw_below_drewN | apply below_drew1 | refine below_set ?_ GE1012.out | refine below_set ?_ GE1013.out) | exact HB.out)⟩
end Go.Proofs.Ytcjjmfpkhhdmlaa.G

namespace Go.Proofs.Ytcjjmfpkhhdmlaa.G
open Go.RowKit Go.Proofs.YtcjjmfpkhhdmlaaW.PrintWords Go.Proofs.YtcjjmfpkhhdmlaaW.PrintLast Go.Proofs.YtcjjmfpkhhdmlaaW.PrintMore
attribute [local go_sem] max2_int min2_int max_two min_two max_three min_three max_four min_four   -- for this text's walks alone
/-! ### laws_eqFeed: function 68 -/
/-- two feeds are the same (told where they are) -/
def laws_eqFeed.f (k : Nat) (l0_0 : List Int) (a0_1 : Int) (a0_2 : Bool) (a0_3 : Int) (a0_4 : Int) (l1_0 : List Int) (a1_1 : Int) (a1_2 : Bool) (a1_3 : Int) (a1_4 : Int) : Option Bool :=
 if a0_1 = a1_1 ∧ a0_2 = a1_2 ∧ a0_3 = a1_3 ∧ a0_4 = a1_4 then ((laws_eqByteS.f k l0_0 l1_0).bind fun t => (if t = true then (some true) else none)) else none
theorem laws_eqFeed.mono : ∀ a0 a1 a2 a3 a4 a5 a6 a7 a8 a9 k, LeO (laws_eqFeed.f k a0 a1 a2 a3 a4 a5 a6 a7 a8 a9) (laws_eqFeed.f (k + 1) a0 a1 a2 a3 a4 a5 a6 a7 a8 a9) := by
 intro a0 a1 a2 a3 a4 a5 a6 a7 a8 a9 k
 unfold laws_eqFeed.f
 exact LeO.ite (LeO.bind (laws_eqByteS.mono _ _ _) (fun _ => LeO.refl _)) (LeO.none _)
set_option maxRecDepth 100000 in
theorem laws_eqFeed.calls (k : Nat) (A0_0 : Option Addr) (c0_0 : Nat) (l0_0 : List Int) (a0_1 : Int) (a0_2 : Bool) (a0_3 : Int) (a0_4 : Int) (A1_0 : Option Addr) (c1_0 : Nat) (l1_0 : List Int) (a1_1 : Int) (a1_2 : Bool) (a1_3 : Int) (a1_4 : Int) (r : Bool) (w : World) (hr0_0 : Kd.C (Kd.int .u8) w A0_0 l0_0.length l0_0) (hc0_0 : l0_0.length ≤ c0_0) (hr1_0 : Kd.C (Kd.int .u8) w A1_0 l1_0.length l1_0) (hc1_0 : l1_0.length ≤ c1_0) (h : laws_eqFeed.f k l0_0 a0_1 a0_2 a0_3 a0_4 l1_0 a1_1 a1_2 a1_3 a1_4 = some r) :
  Calls Try.prog 68 #[.agg #[.slice A0_0 l0_0.length c0_0, .int .i64 a0_1, .bool a0_2, .int .i64 a0_3, .int .i64 a0_4], .agg #[.slice A1_0 l1_0.length c1_0, .int .i64 a1_1, .bool a1_2, .int .i64 a1_3, .int .i64 a1_4]] w fun e w' => e = .returned (.bool r) ∧ Below w.heap.size w w' := by
 unfold laws_eqFeed.f at h
 split at h
 ·rename_i hc
  obtain ⟨rfl, rfl, rfl, rfl⟩ := hc
  obtain ⟨t, ht, h⟩ := Option.bind_eq_some_iff.1 h
  split at h
  ·rename_i he
   subst he
   cases h
   have HE := Aside0.mk ht
   have HR0 := Aside0.mk hr0_0
   have HR1 := Aside0.mk hr1_0
   have HC0 := Aside0.mk hc0_0
   have HC1 := Aside0.mk hc1_0
   clear ht hr0_0 hr1_0 hc0_0 hc1_0
   go_enter Try.func68, Try.ntmps68
   go_upto_region 1 with (fail)
   have hq1 := blk_alloc (blk_new w (Obj.cells #[.slice A0_0 l0_0.length c0_0, .int .i64 a0_1, .bool a0_2, .int .i64 a0_3, .int .i64 a0_4] 77)) (Obj.cells #[.slice A1_0 l1_0.length c1_0, .int .i64 a0_1, .bool a0_2, .int .i64 a0_3, .int .i64 a0_4] 77)
   have hq2 := blk_new (w.alloc (Obj.cells #[.slice A0_0 l0_0.length c0_0, .int .i64 a0_1, .bool a0_2, .int .i64 a0_3, .int .i64 a0_4] 77)) (Obj.cells #[.slice A1_0 l1_0.length c1_0, .int .i64 a0_1, .bool a0_2, .int .i64 a0_3, .int .i64 a0_4] 77)
   rw [World.size_alloc] at hq2
   have HB1 := Aside0.mk (below_alloc (below_alloc (Below.refl w.heap.size w) (Obj.cells #[.slice A0_0 l0_0.length c0_0, .int .i64 a0_1, .bool a0_2, .int .i64 a0_3, .int .i64 a0_4] 77)) (Obj.cells #[.slice A1_0 l1_0.length c1_0, .int .i64 a0_1, .bool a0_2, .int .i64 a0_3, .int .i64 a0_4] 77))
   generalize w.heap.size + 1 = g2 at hq2 ⊢
   generalize w.heap.size = g1 at hq1 ⊢
   generalize (w.alloc (Obj.cells #[.slice A0_0 l0_0.length c0_0, .int .i64 a0_1, .bool a0_2, .int .i64 a0_3, .int .i64 a0_4] 77)).alloc (Obj.cells #[.slice A1_0 l1_0.length c1_0, .int .i64 a0_1, .bool a0_2, .int .i64 a0_3, .int .i64 a0_4] 77) = W1 at hq1 hq2 HB1 ⊢
   have HQ1 := Aside0.mk hq1
   have HQ2 := Aside0.mk hq2
   have p0 := blk_cell hq1 0
   have q0 := blk_cell hq2 0
   simp at p0 q0
   clear hq1 hq2
   go_wp2_with fail
   refine (laws_eqByteS.calls k A0_0 c0_0 l0_0 A1_0 c1_0 l1_0 true _ (Kd.C_below HR0.out HB1.out) HC0.out (Kd.C_below HR1.out HB1.out) HC1.out HE.out).mono ?_
   rintro e_ w_ ⟨rfl, ⟨nd, rfl⟩⟩
   clear p0 q0
   have HB2 := Aside0.mk (pw_below_drewN HB1.out nd)
   have HQ3 := Aside0.mk (show (W1.drewN nd).heap[g1]? = some (.cells #[.slice A0_0 l0_0.length c0_0, .int .i64 a0_1, .bool a0_2, .int .i64 a0_3, .int .i64 a0_4] 77 (0, 0)) from HQ1.out)
   have HQ4 := Aside0.mk (show (W1.drewN nd).heap[g2]? = some (.cells #[.slice A1_0 l1_0.length c1_0, .int .i64 a0_1, .bool a0_2, .int .i64 a0_3, .int .i64 a0_4] 77 (0, 0)) from HQ2.out)
   generalize W1.drewN nd = W2 at HB2 HQ3 HQ4 ⊢
   have p1 := blk_cell HQ3.out 1
   have p2 := blk_cell HQ3.out 2
   have p3 := blk_cell HQ3.out 3
   have p4 := blk_cell HQ3.out 4
   have q1 := blk_cell HQ4.out 1
   have q2 := blk_cell HQ4.out 2
   have q3 := blk_cell HQ4.out 3
   have q4 := blk_cell HQ4.out 4
   simp at p1 p2 p3 p4 q1 q2 q3 q4
   clear HQ1 HQ2 HQ3 HQ4
   go_wp2_with fail
   refine (laws_eqFault.calls a0_3 a0_4 a0_3 a0_4 true _ (by unfold laws_eqFault.f; rw [if_pos rfl, if_pos rfl])).mono ?_
   rintro e_ w3 ⟨rfl, hb3⟩
   have HB3 := Aside0.mk (Below.trans HB2.out (hb3.mono HB2.out.size))
   clear hb3 p1 p2 p3 p4 q1 q2 q3 q4
   go_wp2
   go_ret
   exact ⟨rfl, HB3.out⟩
  ·cases h
 ·cases h
theorem eqFeed_ev (l : List Int) (n : Int) (o : Bool) (fc fa : Int) (h : l.length ≤ 1048576) : Ev (fun k => laws_eqFeed.f k l n o fc fa l n o fc fa) true := by
 unfold laws_eqFeed.f
 exact Ev.ip ⟨rfl, rfl, rfl, rfl⟩ (Ev.bind (laws_eqByteS.T l h) (Ev.ip rfl (Ev.now _)))
end Go.Proofs.Ytcjjmfpkhhdmlaa.G

namespace Go.Proofs.Ytcjjmfpkhhdmlaa.G
open Go.RowKit Go.Proofs.YtcjjmfpkhhdmlaaW.PrintWords Go.Proofs.YtcjjmfpkhhdmlaaW.PrintLast Go.Proofs.YtcjjmfpkhhdmlaaW.PrintMore
attribute [local go_sem] max2_int min2_int max_two min_two max_three min_three max_four min_four   -- for this text's walks alone
/-! ### impl_mayRestart: function 134 -/
def impl_mayRestart.f (l0 : List (S131)) : Option (Bool) := if (l0.length : Int) > 0 then (if 0 ≤ (wrap64 ((l0.length : Int) - 1)) then (if (wrap64 ((l0.length : Int) - 1)) < (l0.length : Int) then (some (((rd_T131 l0 (wrap64 ((l0.length : Int) - 1))).f0) == 0)) else (none)) else (none)) else (some false)
set_option maxHeartbeats 8000000 in
set_option maxRecDepth 100000 in
theorem impl_mayRestart.calls (A0 : Option Addr) (c0 : Nat) (l0 : List (S131)) (r : Bool) (w : World) (hr0 : Kd.C k131 w A0 l0.length l0) (hc0 : l0.length ≤ c0) (h : impl_mayRestart.f l0 = some r) :
  Calls Try.prog 134 #[.slice A0 l0.length c0] w fun e w' => e = .returned (.bool r) ∧ Drawn0 w w' := by
 have HR0 := Aside0.mk hr0
 have HC0 := Aside0.mk hc0
 clear hr0 hc0
 have H : (if (l0.length : Int) > 0 then (if 0 ≤ (wrap64 ((l0.length : Int) - 1)) then (if (wrap64 ((l0.length : Int) - 1)) < (l0.length : Int) then (some (((rd_T131 l0 (wrap64 ((l0.length : Int) - 1))).f0) == 0)) else (none)) else (none)) else (some false)) = some r := h
 clear h
 by_cases c2 : (l0.length : Int) > 0
 ·rw [if_pos c2] at H
  have c2b0 : decide (0 < (l0.length : Int)) = true := decide_eq_true c2
  have c2b1 : decide (0 < l0.length) = true := decide_eq_true (by omega)
  clear c2
  obtain ⟨ji3, hji3⟩ : ∃ j_ : Int, (wrap64 ((l0.length : Int) - 1)) = j_ := ⟨_, rfl⟩
  replace H : (if 0 ≤ (ji3) then (if (ji3) < (l0.length : Int) then (some (((rd_T131 l0 (ji3)).f0) == 0)) else (none)) else (none)) = some r := by first | (rw [hji3] at H; exact H) | (simp only [hji3] at H ⊢; exact H)
  have hji3w : (IntKind.i64.wrap ((l0.length : Int) - 1)) = ji3 := (i64_w _).trans hji3
  by_cases c4 : 0 ≤ (ji3)
  ·rw [if_pos c4] at H
   have c4b0 : decide (0 ≤ (ji3)) = true := decide_eq_true c4
   clear c4
   by_cases c5 : (ji3) < (l0.length : Int)
   ·rw [if_pos c5] at H
    have c5b0 : decide ((ji3) < (l0.length : Int)) = true := decide_eq_true c5
    clear c5
    obtain rfl := Option.some.inj H
    have p992 : 0 ≤ ((ji3) : Int) := of_decide_eq_true (by first | (with_reducible assumption) | assumption)
    have q992 : (ji3) < (l0.length : Int) := of_decide_eq_true (by first | (with_reducible assumption) | assumption)
    obtain ⟨ad992, A992_1, c992_1, e992, hx992_0, hx992_1, hl992_1, hi992_1⟩ := at_T131 HR0.out (ji3) p992 q992
    cases e992
    have HR992_1 := Aside0.mk hi992_1
    have HC992_1 := Aside0.mk hl992_1
    clear hi992_1 hl992_1
    replace p992 := eq_true p992
    replace q992 := eq_true q992
    go_enter Try.func134, Try.ntmps134
    go_wp2
    go_ret
    exact ⟨by first | rfl | (simp; done) | (simp only [← hji3] <;> (first | rfl | simp)) | (simp [*]; done), by repeat (first | exact Drawn0.refl _ | apply Drawn0.step)⟩
   ·rw [if_neg c5] at H
    exact absurd H (by simp)
  ·rw [if_neg c4] at H
   exact absurd H (by simp)
 ·rw [if_neg c2] at H
  have c2b0 : decide (0 < (l0.length : Int)) = false := decide_eq_false c2
  have c2b1 : decide (0 < l0.length) = false := decide_eq_false (by omega)
  clear c2
  obtain rfl := Option.some.inj H
  go_enter Try.func134, Try.ntmps134
  go_wp2
  go_ret
  exact ⟨by first | rfl | (simp; done) | (simp [*]; done), by repeat (first | exact Drawn0.refl _ | apply Drawn0.step)⟩
end Go.Proofs.Ytcjjmfpkhhdmlaa.G

namespace Go.Proofs.Ytcjjmfpkhhdmlaa.G
open Go.RowKit Go.Proofs.YtcjjmfpkhhdmlaaW.PrintWords Go.Proofs.YtcjjmfpkhhdmlaaW.PrintLast Go.Proofs.YtcjjmfpkhhdmlaaW.PrintMore
attribute [local go_sem] max2_int min2_int max_two min_two max_three min_three max_four min_four   -- for this text's walks alone
/-! ### impl_mayRun: function 165 -/
def impl_mayRun.f (l0 : List (S131)) : Option (Bool) := if (l0.length : Int) > 0 then (if 0 ≤ (wrap64 ((l0.length : Int) - 1)) then (if (wrap64 ((l0.length : Int) - 1)) < (l0.length : Int) then (some (((rd_T131 l0 (wrap64 ((l0.length : Int) - 1))).f0) != 0)) else (none)) else (none)) else (some false)
set_option maxHeartbeats 8000000 in
set_option maxRecDepth 100000 in
theorem impl_mayRun.calls (A0 : Option Addr) (c0 : Nat) (l0 : List (S131)) (r : Bool) (w : World) (hr0 : Kd.C k131 w A0 l0.length l0) (hc0 : l0.length ≤ c0) (h : impl_mayRun.f l0 = some r) :
  Calls Try.prog 165 #[.slice A0 l0.length c0] w fun e w' => e = .returned (.bool r) ∧ Drawn0 w w' := by
 have HR0 := Aside0.mk hr0
 have HC0 := Aside0.mk hc0
 clear hr0 hc0
 have H : (if (l0.length : Int) > 0 then (if 0 ≤ (wrap64 ((l0.length : Int) - 1)) then (if (wrap64 ((l0.length : Int) - 1)) < (l0.length : Int) then (some (((rd_T131 l0 (wrap64 ((l0.length : Int) - 1))).f0) != 0)) else (none)) else (none)) else (some false)) = some r := h
 clear h
 by_cases c2 : (l0.length : Int) > 0
 ·rw [if_pos c2] at H
  have c2b0 : decide (0 < (l0.length : Int)) = true := decide_eq_true c2
  have c2b1 : decide (0 < l0.length) = true := decide_eq_true (by omega)
  clear c2
  obtain ⟨ji3, hji3⟩ : ∃ j_ : Int, (wrap64 ((l0.length : Int) - 1)) = j_ := ⟨_, rfl⟩
  replace H : (if 0 ≤ (ji3) then (if (ji3) < (l0.length : Int) then (some (((rd_T131 l0 (ji3)).f0) != 0)) else (none)) else (none)) = some r := by first | (rw [hji3] at H; exact H) | (simp only [hji3] at H ⊢; exact H)
  have hji3w : (IntKind.i64.wrap ((l0.length : Int) - 1)) = ji3 := (i64_w _).trans hji3
  by_cases c4 : 0 ≤ (ji3)
  ·rw [if_pos c4] at H
   have c4b0 : decide (0 ≤ (ji3)) = true := decide_eq_true c4
   clear c4
   by_cases c5 : (ji3) < (l0.length : Int)
   ·rw [if_pos c5] at H
    have c5b0 : decide ((ji3) < (l0.length : Int)) = true := decide_eq_true c5
    clear c5
    obtain rfl := Option.some.inj H
    have p993 : 0 ≤ ((ji3) : Int) := of_decide_eq_true (by first | (with_reducible assumption) | assumption)
    have q993 : (ji3) < (l0.length : Int) := of_decide_eq_true (by first | (with_reducible assumption) | assumption)
    obtain ⟨ad993, A993_1, c993_1, e993, hx993_0, hx993_1, hl993_1, hi993_1⟩ := at_T131 HR0.out (ji3) p993 q993
    cases e993
    have HR993_1 := Aside0.mk hi993_1
    have HC993_1 := Aside0.mk hl993_1
    clear hi993_1 hl993_1
    replace p993 := eq_true p993
    replace q993 := eq_true q993
    go_enter Try.func165, Try.ntmps165
    go_wp2
    go_ret
    exact ⟨by first | rfl | (simp; done) | (simp only [← hji3] <;> (first | rfl | simp)) | (simp [*]; done), by repeat (first | exact Drawn0.refl _ | apply Drawn0.step)⟩
   ·rw [if_neg c5] at H
    exact absurd H (by simp)
  ·rw [if_neg c4] at H
   exact absurd H (by simp)
 ·rw [if_neg c2] at H
  have c2b0 : decide (0 < (l0.length : Int)) = false := decide_eq_false c2
  have c2b1 : decide (0 < l0.length) = false := decide_eq_false (by omega)
  clear c2
  obtain rfl := Option.some.inj H
  go_enter Try.func165, Try.ntmps165
  go_wp2
  go_ret
  exact ⟨by first | rfl | (simp; done) | (simp [*]; done), by repeat (first | exact Drawn0.refl _ | apply Drawn0.step)⟩
end Go.Proofs.Ytcjjmfpkhhdmlaa.G

namespace Go.Proofs.Ytcjjmfpkhhdmlaa.G
open Go.RowKit Go.Proofs.YtcjjmfpkhhdmlaaW.PrintWords Go.Proofs.YtcjjmfpkhhdmlaaW.PrintLast Go.Proofs.YtcjjmfpkhhdmlaaW.PrintMore
attribute [local go_sem] max2_int min2_int max_two min_two max_three min_three max_four min_four   -- for this text's walks alone
/-! ### impl_within: function 81 -/
def impl_within.f (a0 : Int) (a1 : Int) (a2 : Int) : Option (Bool) := if a0 ≥ a1 then (some (decide (a0 ≤ a2))) else (some false)
set_option maxHeartbeats 8000000 in
set_option maxRecDepth 100000 in
theorem impl_within.calls (a0 : Int) (a1 : Int) (a2 : Int) (r : Bool) (w : World) (h : impl_within.f a0 a1 a2 = some r) :
  Calls Try.prog 81 #[.int .i64 a0, .int .i64 a1, .int .i64 a2] w fun e w' => e = .returned (.bool r) ∧ Drawn0 w w' := by
 have H : (if a0 ≥ a1 then (some (decide (a0 ≤ a2))) else (some false)) = some r := h
 clear h
 by_cases c4 : a0 ≥ a1
 ·rw [if_pos c4] at H
  have c4b0 : decide (a1 ≤ a0) = true := decide_eq_true c4
  clear c4
  obtain rfl := Option.some.inj H
  go_enter Try.func81, Try.ntmps81
  go_wp2
  go_ret
  exact ⟨by first | rfl | (simp; done) | (simp [*]; done), by repeat (first | exact Drawn0.refl _ | apply Drawn0.step)⟩
 ·rw [if_neg c4] at H
  have c4b0 : decide (a1 ≤ a0) = false := decide_eq_false c4
  clear c4
  obtain rfl := Option.some.inj H
  go_enter Try.func81, Try.ntmps81
  go_wp2
  go_ret
  exact ⟨by first | rfl | (simp; done) | (simp [*]; done), by repeat (first | exact Drawn0.refl _ | apply Drawn0.step)⟩
theorem impl_within.val (x lo hi : Int) : impl_within.f x lo hi = some (decide (lo ≤ x) && decide (x ≤ hi)) := by
 unfold impl_within.f
 by_cases h1 : x ≥ lo
 ·rw [if_pos h1]; simp [ge_iff_le.mp h1]
 ·rw [if_neg h1]; have : ¬ lo ≤ x := h1; simp [this]
end Go.Proofs.Ytcjjmfpkhhdmlaa.G

namespace Go.Proofs.Ytcjjmfpkhhdmlaa.G
open Go.RowKit Go.Proofs.YtcjjmfpkhhdmlaaW.PrintWords Go.Proofs.YtcjjmfpkhhdmlaaW.PrintLast Go.Proofs.YtcjjmfpkhhdmlaaW.PrintMore
attribute [local go_sem] max2_int min2_int max_two min_two max_three min_three max_four min_four   -- for this text's walks alone
/-! ### impl_isRestart: function 166 -/
def impl_isRestart.f (a0 : Int) : Option (Bool) := (impl_within.f a0 240 247).bind fun t994 => (some t994)
set_option maxHeartbeats 8000000 in
set_option maxRecDepth 100000 in
theorem impl_isRestart.calls (a0 : Int) (r : Bool) (w : World) (h : impl_isRestart.f a0 = some r) :
  Calls Try.prog 166 #[.int .i64 a0] w fun e w' => e = .returned (.bool r) ∧ Drawn0 w w' := by
 have H : ((impl_within.f a0 240 247).bind fun t994 => (some t994)) = some r := h
 clear h
 replace H := Option.bind_eq_some_iff.mp H
 obtain ⟨t994, A20, H⟩ := H
 replace H : (some t994) = some r := H
 have A2 := Aside0.mk A20
 clear A20
 obtain rfl := Option.some.inj H
 go_enter Try.func166, Try.ntmps166
 go_wp2_with (first | ((with_reducible refine gate_callee (f := 81) rfl ?_); refine goesL_ (some 4) rfl rfl Try.func81 (by kernel_rfl) rfl #[.int .i64 a0, .int .i64 240, .int .i64 247] rfl (by (try simp only [List.map_toArray, List.map_cons, List.map_nil]); first | done | rfl | (simp only [List.length_drop, List.length_take]; rfl)) ?_; (with_reducible refine (impl_within.calls a0 240 247 t994 _ A2.out).mono ?_); rintro e w' ⟨rfl, ⟨nd, rfl⟩⟩; refine ⟨_, rfl, ?_⟩))
 go_ret
 exact ⟨by first | rfl | (simp; done) | (simp [*]; done), by repeat (first | exact Drawn0.refl _ | apply Drawn0.step)⟩
end Go.Proofs.Ytcjjmfpkhhdmlaa.G

namespace Go.Proofs.Ytcjjmfpkhhdmlaa.G
open Go.RowKit Go.Proofs.YtcjjmfpkhhdmlaaW.PrintWords Go.Proofs.YtcjjmfpkhhdmlaaW.PrintLast Go.Proofs.YtcjjmfpkhhdmlaaW.PrintMore
attribute [local go_sem] max2_int min2_int max_two min_two max_three min_three max_four min_four   -- for this text's walks alone
/-! segments: what both programs tell -/
/-- bytes up to a 255 that no 0 follows, and how many these are -/
def un : List Int → List Int × Nat
 | [] => ([], 0)
 | [x] => if x = 255 then ([], 0) else ([x], 1)
 | x :: y :: t => if x = 255 then (if y = 0 then (255 :: (un t).1, (un t).2 + 2) else ([], 0)) else (x :: (un (y :: t)).1, (un (y :: t)).2 + 1)
def mayRunM (l : List S131) : Bool := match l.getLast? with | some s => s.f0 != 0 | none => false
def mayRestM (l : List S131) : Bool := match l.getLast? with | some s => s.f0 == 0 | none => false
def isRest (m : Int) : Bool := decide (240 ≤ m) && decide (m ≤ 247)
/-- the mark that the rest begins with, 0 of run data -/
def markM (rest : List Int) : Int := if rd rest 0 ≠ 255 ∨ rd rest 1 = 0 then 0 else rd rest 1
def badM (m : Int) (l : List S131) : Bool := decide (247 < m) || (decide (m = 0) && !mayRunM l) || (isRest m && !mayRestM l)
def lenM (rest : List Int) : Int := rd rest 2 * 256 + rd rest 3
/-- one segment is read: the end, a fault, the place behind, the segments -/
def nxt (b : List Int) (at_ : Nat) (l : List S131) : Bool × Int × Int × Nat × List S131 :=
 if b.drop at_ = [] ∨ b.drop at_ = [255] then (false, 3, b.length, at_, l)
 else if markM (b.drop at_) = 254 then (true, 0, 0, at_ + 2, l)
 else if badM (markM (b.drop at_)) l then (false, 4, at_, at_, l)
 else if l.length = 300 then (false, 6, at_, at_, l)
 else if markM (b.drop at_) = 0 then
  (if 20000 < (un (b.drop at_)).1.length then (false, 5, at_, at_, l) else (false, 0, 0, at_ + (un (b.drop at_)).2, l ++ [⟨0, (un (b.drop at_)).1⟩]))
 else if isRest (markM (b.drop at_)) then (false, 0, 0, at_ + 2, l ++ [⟨markM (b.drop at_), []⟩])
 else if (b.drop at_).length < 4 then (false, 3, b.length, at_, l)
 else if 20000 < lenM (b.drop at_) then (false, 5, at_, at_, l)
 else if ((b.drop at_).length : Int) < 4 + lenM (b.drop at_) then (false, 3, b.length, at_, l)
 else (false, 0, 0, at_ + 4 + (lenM (b.drop at_)).toNat, l ++ [⟨markM (b.drop at_), ((b.drop at_).drop 4).take (lenM (b.drop at_)).toNat⟩])
theorem un_ne (x : Int) (t : List Int) (h : x ≠ 255) : un (x :: t) = (x :: (un t).1, (un t).2 + 1) := by
 cases t with
 | nil => simp [un, h]
 | cons y t => simp only [un]; rw [if_neg h]
theorem un_two (t : List Int) : un (255 :: 0 :: t) = (255 :: (un t).1, (un t).2 + 2) := by simp [un]
theorem un_stop (y : Int) (t : List Int) (h : y ≠ 0) : un (255 :: y :: t) = ([], 0) := by simp [un, h]
theorem un_one : un [255] = ([], 0) := by simp [un]
theorem un_facts : ∀ (n : Nat) (l : List Int), l.length ≤ n → (un l).2 ≤ l.length ∧ (un l).1.length ≤ l.length ∧ (l.drop (un l).2 = [] ∨ ∃ t, l.drop (un l).2 = 255 :: t) := by
 intro n
 induction n with
 | zero =>
  intro l h
  obtain rfl : l = [] := List.eq_nil_of_length_eq_zero (by omega)
  simp [un]
 | succ n ih =>
  intro l h
  match l, h with
  | [], _ => simp [un]
  | x :: t, h =>
   by_cases hx : x = 255
   ·subst hx
    match t, h with
    | [], _ => rw [un_one]; simp
    | y :: t, h =>
     by_cases hy : y = 0
     ·subst hy
      rw [un_two]
      obtain ⟨h1, h2, h3⟩ := ih t (by simp at h; omega)
      refine ⟨by simp; omega, by simp; omega, ?_⟩
      simpa using h3
     ·rw [un_stop y t hy]; simp
   ·rw [un_ne x t hx]
    obtain ⟨h1, h2, h3⟩ := ih t (by simp at h; omega)
    refine ⟨by simp; omega, by simp; omega, ?_⟩
    simpa using h3
theorem un_le (l : List Int) : (un l).2 ≤ l.length := (un_facts _ l (Nat.le_refl _)).1
theorem un_len (l : List Int) : (un l).1.length ≤ l.length := (un_facts _ l (Nat.le_refl _)).2.1
theorem un_end (l : List Int) : l.drop (un l).2 = [] ∨ ∃ t, l.drop (un l).2 = 255 :: t := (un_facts _ l (Nat.le_refl _)).2.2
theorem drop_two (b : List Int) (i : Nat) (h : i + 1 < b.length) : b.drop i = b[i] :: b[i + 1] :: b.drop (i + 2) := by
 rw [List.drop_eq_getElem_cons (by omega), List.drop_eq_getElem_cons h]
theorem drop_last (b : List Int) (i : Nat) (h : i < b.length) (h2 : i + 1 = b.length) : b.drop i = [b[i]] := by
 rw [List.drop_eq_getElem_cons h, List.drop_of_length_le (by omega)]
end Go.Proofs.Ytcjjmfpkhhdmlaa.G

namespace Go.Proofs.Ytcjjmfpkhhdmlaa.G
open Go.RowKit Go.Proofs.YtcjjmfpkhhdmlaaW.PrintWords Go.Proofs.YtcjjmfpkhhdmlaaW.PrintLast Go.Proofs.YtcjjmfpkhhdmlaaW.PrintMore
attribute [local go_sem] max2_int min2_int max_two min_two max_three min_three max_four min_four   -- for this text's walks alone
/-! ### impl_Unstuff: function 167 -/
mutual
def impl_Unstuff.l0 : Nat → List Int → List Int → Int → Option (List Int × Int)
 | 0, _, _, _ => none
 | k + 1, x0, x4, x5 => if x5 < (x0.length : Int) then (if 0 ≤ x5 then (if (rd x0 x5) = 255 then (if (wrap64 (x5 + 1)) = (x0.length : Int) then (impl_Unstuff.j1 k x0 x4 x5 true) else (if 0 ≤ (wrap64 (x5 + 1)) then (if (wrap64 (x5 + 1)) < (x0.length : Int) then (impl_Unstuff.j1 k x0 x4 x5 ((rd x0 (wrap64 (x5 + 1))) != 0)) else (none)) else (none))) else (impl_Unstuff.j1 k x0 x4 x5 false)) else (none)) else (some (x4, (x0.length : Int)))
def impl_Unstuff.j1 : Nat → List Int → List Int → Int → Bool → Option (List Int × Int)
 | 0, _, _, _, _ => none
 | k + 1, x0, x4, x5, x32 => if x32 = true then (some (x4, x5)) else (if 0 ≤ x5 then (if x5 < (x0.length : Int) then (if x4.length < 140737488355328 then ((some (x4 ++ [rd x0 x5] : List Int)).bind fun y1001 => (if (rd x0 x5) = 255 then (impl_Unstuff.l0 k x0 y1001 (wrap64 ((wrap64 (x5 + 1)) + 1))) else (impl_Unstuff.l0 k x0 y1001 (wrap64 (x5 + 1))))) else (none)) else (none)) else (none))
end
def impl_Unstuff.f (k : Nat) (l0 : List Int) : Option (List Int × Int) := impl_Unstuff.l0 k l0 (([] : List Int)) 0
theorem impl_Unstuff.mono_l : ∀ k, (∀ y0 y1 y2, LeO (impl_Unstuff.l0 k y0 y1 y2) (impl_Unstuff.l0 (k + 1) y0 y1 y2)) ∧ (∀ y0 y1 y2 y3, LeO (impl_Unstuff.j1 k y0 y1 y2 y3) (impl_Unstuff.j1 (k + 1) y0 y1 y2 y3))
 | 0 => ⟨fun _ _ _ r h => by simp [impl_Unstuff.l0] at h, fun _ _ _ _ r h => by simp [impl_Unstuff.j1] at h⟩
 | k + 1 => by
  obtain ⟨ih0, ih1⟩ := impl_Unstuff.mono_l k
  refine ⟨?_, ?_⟩
  ·intro y0 y1 y2
   unfold impl_Unstuff.l0
   repeat' first
   | (with_reducible exact ih0 _ _ _)
   | (with_reducible exact ih1 _ _ _ _)
   | (with_reducible exact LeO.refl _)
   | (with_reducible exact LeO.none _)
   | (with_reducible refine LeO.ite ?_ ?_)
   | (with_reducible refine LeO.bind ?_ (fun _ => ?_))
   | exact ih0 _ _ _
   | exact ih1 _ _ _ _
   | exact LeO.none _
   | refine LeO.ite ?_ ?_
   | refine LeO.bind ?_ (fun _ => ?_)
  ·intro y0 y1 y2 y3
   unfold impl_Unstuff.j1
   repeat' first
   | (with_reducible exact ih0 _ _ _)
   | (with_reducible exact ih1 _ _ _ _)
   | (with_reducible exact LeO.refl _)
   | (with_reducible exact LeO.none _)
   | (with_reducible refine LeO.ite ?_ ?_)
   | (with_reducible refine LeO.bind ?_ (fun _ => ?_))
   | exact ih0 _ _ _
   | exact ih1 _ _ _ _
   | exact LeO.none _
   | refine LeO.ite ?_ ?_
   | refine LeO.bind ?_ (fun _ => ?_)
theorem impl_Unstuff.mono : ∀ a0 k, LeO (impl_Unstuff.f k a0) (impl_Unstuff.f (k + 1) a0) := by
 intro a0 k
 obtain ⟨ih0, ih1⟩ := impl_Unstuff.mono_l k
 unfold impl_Unstuff.f
 repeat' first
   | (with_reducible exact ih0 _ _ _)
   | (with_reducible exact ih1 _ _ _ _)
   | (with_reducible exact LeO.refl _)
   | (with_reducible exact LeO.none _)
   | (with_reducible refine LeO.ite ?_ ?_)
   | (with_reducible refine LeO.bind ?_ (fun _ => ?_))
   | exact ih0 _ _ _
   | exact ih1 _ _ _ _
   | exact LeO.none _
   | refine LeO.ite ?_ ?_
   | refine LeO.bind ?_ (fun _ => ?_)
set_option maxHeartbeats 8000000 in
set_option maxRecDepth 100000 in
theorem impl_Unstuff.calls (k : Nat) (A0 : Option Addr) (c0 : Nat) (l0 : List Int) (r1 : List Int) (r2 : Int) (w : World) (hr0 : Kd.C (Kd.int .u8) w A0 l0.length l0) (hc0 : l0.length ≤ c0) (h : impl_Unstuff.f k l0 = some (r1, r2)) :
  Calls Try.prog 167 #[.slice A0 l0.length c0] w fun e w' => ∃ v0_ : Value, e = .returned (.tuple #[v0_, .int .i64 r2]) ∧ Kd.R (Kd.int .u8) 5 w' w.heap.size (fun _ => True) v0_ r1 ∧ Below w.heap.size w w' := by
 have HR0 := Aside0.mk hr0
 have HC0 := Aside0.mk hc0
 clear hr0 hc0
 have HB := Aside0.mk (Below.refl w.heap.size w)
 have H : (impl_Unstuff.l0 k l0 (([] : List Int)) 0) = some (r1, r2) := h
 clear h
 obtain ⟨y995, hy995⟩ : ∃ y_ : List Int, y_ = (([] : List Int)) := ⟨_, rfl⟩
 replace H : (impl_Unstuff.l0 k l0 y995 0) = some (r1, r2) := by first | (rw [hy995]; with_reducible exact H) | (have H2_ := (Option.bind_some _ _).symm.trans H; rw [hy995]; with_reducible exact H2_) | (have H2_ := (Option.bind_some _ _).symm.trans H; with_reducible exact H2_) | with_reducible exact H | (rw [hy995]; exact H) | exact H
 have Ny995 := Aside0.mk hy995
 clear hy995
 have H' := Aside0.mk H
 clear H
 go_enter Try.func167, Try.ntmps167
 go_wp2_with (first | ((with_reducible refine gate_dst (N := 6) rfl ?_); (try (refine gate_guard (by rfl) ?_; dsimp only)); refine Kd.R_lit (Kd.int .u8) _ 5 ?hg (N := 6) ?hd (xs := ([] : List Int)) (inner := []) (ok := fun _ => True) (okp := fun _ => True) ?hr ?hp (fun _ hk => hk) trivial (Below.refl _ _) (Nat.le_refl _) (by simp) ?_; (case hd => rfl); (case hg => rfl); (case hr => first | (go_simp; done) | (go_simp; rfl)); (case hp => exact (Reps.none _ _)); intro v996 w2 ho3 hb hg_ hnew_; clear hg_ hnew_; (first | rw [← Ny995.out] at ho3 | (simp only [Int.reduceToNat] at ho3; rw [← Ny995.out] at ho3)); have n0_ := Aside0.mk (Kd.R_lower ho3 (below_size (by repeat (first | (with_reducible first | exact HB.out | apply below_alloc | apply pw_below_drewN | apply below_drew1) | exact HB.out)))); have n1_ := Aside0.mk (below_step (by repeat (first | (with_reducible first | exact HB.out | apply below_alloc | apply pw_below_drewN | apply below_drew1) | exact HB.out)) hb); clear HB; have HO997 := n0_; have HB := n1_; clear n0_ n1_; clear hb ho3))
 go_loopg [4, 5] k (fun kq v4 v5 w' => ∃ (x4_1 : List Int) (x5_1 : Int), v5 = .int .i64 x5_1 ∧ Aside0 (impl_Unstuff.l0 kq l0 x4_1 x5_1 = some (r1, r2)) ∧ Aside0 (kq ≤ k) ∧ Aside0 (Kd.R (Kd.int .u8) 5 w' w.heap.size (fun _ => True) v4 x4_1) ∧ Aside0 (Below w.heap.size w w'))
 case atStart => exact ⟨(y995), (0), (by first | rfl | (simp; done) | (simp [*]; done)), H', ⟨Nat.le_refl _⟩, ⟨by (with_reducible repeat (first | apply Kd.R_alloc | apply Kd.R_drewN | apply Kd.R_drew)); exact HO997.out⟩, ⟨by repeat (first | (with_reducible first | exact HB.out | apply below_alloc | apply pw_below_drewN | apply below_drew1) | exact HB.out)⟩⟩
 case round =>
  clear H'
  try clear c1
  try clear p2
  obtain ⟨x4_1, x5_1, rfl, HA, HK1, HO_4, HB⟩ := hrel
  cases gk with
  | zero => exact absurd HA.out (by simp [impl_Unstuff.l0])
  | succ k1 =>
   have H := HA.out
   clear HA
   simp only [impl_Unstuff.l0] at H
   by_cases c4 : x5_1 < (l0.length : Int)
   ·rw [if_pos c4] at H
    have c4b0 : decide (x5_1 < (l0.length : Int)) = true := decide_eq_true c4
    clear c4
    have HC5 := Aside0.mk H
    clear H
    go_upto_region 5 with (fail)
    go_cut [32] (fun v32 wc => ∃ (kq : Nat) (x32_4 : Bool), v32 = .bool x32_4 ∧ Aside0 (impl_Unstuff.j1 kq l0 x4_1 x5_1 x32_4 = some (r1, r2)) ∧ Aside0 (kq ≤ k1) ∧ Aside0 (Kd.R (Kd.int .u8) 5 wc w.heap.size (fun _ => True) u4 x4_1) ∧ Aside0 (Below w.heap.size w wc))
    case first =>
     have H := HC5.out
     clear HC5
     by_cases c6 : 0 ≤ x5_1
     ·rw [if_pos c6] at H
      have c6b0 : decide (0 ≤ x5_1) = true := decide_eq_true c6
      clear c6
      (first | rw [c6b0] | (simp only [i64_w, i32_w]; rw [c6b0]) | skip)
      by_cases c7 : (rd l0 x5_1) = 255
      ·rw [if_pos c7] at H
       have c7b0 : ((rd l0 x5_1) == 255) = true := beq_iff_eq.mpr c7
       have c7b1 : ((rd l0 x5_1) != 255) = false := bne_eq_false_iff_eq.mpr c7
       clear c7
       by_cases c8 : (wrap64 (x5_1 + 1)) = (l0.length : Int)
       ·rw [if_pos c8] at H
        have c8b0 : ((wrap64 (x5_1 + 1)) == (l0.length : Int)) = true := beq_iff_eq.mpr c8
        have c8b1 : ((wrap64 (x5_1 + 1)) != (l0.length : Int)) = false := bne_eq_false_iff_eq.mpr c8
        clear c8
        have H' := Aside0.mk H
        clear H
        have p998 : 0 ≤ (x5_1 : Int) := of_decide_eq_true (by first | (with_reducible assumption) | assumption)
        have q998 : x5_1 < (l0.length : Int) := of_decide_eq_true (by first | (with_reducible assumption) | assumption)
        obtain ⟨ad998, e998, hx998_0⟩ := Kd.at_int HR0.out x5_1 p998 q998
        cases e998
        replace hx998_0 := (HB.out.cell (World.block_lt_of_cell? w _ hx998_0)).trans hx998_0
        replace p998 := eq_true p998
        replace q998 := eq_true q998
        go_wp2
        go_meet
        case rel => exact ⟨_, (true), (by first | rfl | (simp; done) | (simp [*]; done)), H', ⟨by have := HK1.out; first | omega | exact Nat.le_refl _⟩, ⟨by (with_reducible repeat (first | apply Kd.R_alloc | apply Kd.R_drewN | apply Kd.R_drew)); exact HO_4.out⟩, ⟨by repeat (first | (with_reducible first | exact HB.out | apply below_alloc | apply pw_below_drewN | apply below_drew1) | exact HB.out)⟩⟩
       ·rw [if_neg c8] at H
        have c8b0 : ((wrap64 (x5_1 + 1)) == (l0.length : Int)) = false := beq_eq_false_iff_ne.mpr c8
        have c8b1 : ((wrap64 (x5_1 + 1)) != (l0.length : Int)) = true := bne_iff_ne.mpr c8
        obtain ⟨ji9, hji9⟩ : ∃ j_ : Int, (wrap64 (x5_1 + 1)) = j_ := ⟨_, rfl⟩
        replace H : (if 0 ≤ (ji9) then (if (ji9) < (l0.length : Int) then (impl_Unstuff.j1 k1 l0 x4_1 x5_1 ((rd l0 (ji9)) != 0)) else (none)) else (none)) = some (r1, r2) := by first | (rw [hji9] at H; exact H) | (simp only [hji9] at H ⊢; exact H)
        (try rw [hji9] at c8b0)
        (try rw [hji9] at c8b1)
        have hji9w : (IntKind.i64.wrap (x5_1 + 1)) = ji9 := (i64_w _).trans hji9
        by_cases c10 : 0 ≤ (ji9)
        ·rw [if_pos c10] at H
         have c10b0 : decide (0 ≤ (ji9)) = true := decide_eq_true c10
         clear c10
         by_cases c11 : (ji9) < (l0.length : Int)
         ·rw [if_pos c11] at H
          have c11b0 : decide ((ji9) < (l0.length : Int)) = true := decide_eq_true c11
          clear c11
          have H' := Aside0.mk H
          clear H
          have p998 : 0 ≤ (x5_1 : Int) := of_decide_eq_true (by first | (with_reducible assumption) | assumption)
          have q998 : x5_1 < (l0.length : Int) := of_decide_eq_true (by first | (with_reducible assumption) | assumption)
          obtain ⟨ad998, e998, hx998_0⟩ := Kd.at_int HR0.out x5_1 p998 q998
          cases e998
          replace hx998_0 := (HB.out.cell (World.block_lt_of_cell? w _ hx998_0)).trans hx998_0
          replace p998 := eq_true p998
          replace q998 := eq_true q998
          have p999 : 0 ≤ ((ji9) : Int) := of_decide_eq_true (by first | (with_reducible assumption) | assumption)
          have q999 : (ji9) < (l0.length : Int) := of_decide_eq_true (by first | (with_reducible assumption) | assumption)
          obtain ⟨ad999, e999, hx999_0⟩ := Kd.at_int HR0.out (ji9) p999 q999
          obtain rfl : ad998 = ad999 := (by injection e999)
          replace hx999_0 := (HB.out.cell (World.block_lt_of_cell? w _ hx999_0)).trans hx999_0
          replace p999 := eq_true p999
          replace q999 := eq_true q999
          go_wp2
          go_meet
          case rel => exact ⟨_, (((rd l0 (ji9)) != 0)), (by first | rfl | (simp; done) | (simp only [← hji9] <;> (first | rfl | simp)) | (simp [*]; done)), H', ⟨by have := HK1.out; first | omega | exact Nat.le_refl _⟩, ⟨by (with_reducible repeat (first | apply Kd.R_alloc | apply Kd.R_drewN | apply Kd.R_drew)); exact HO_4.out⟩, ⟨by repeat (first | (with_reducible first | exact HB.out | apply below_alloc | apply pw_below_drewN | apply below_drew1) | exact HB.out)⟩⟩
         ·rw [if_neg c11] at H
          exact absurd H (by simp)
        ·rw [if_neg c10] at H
         exact absurd H (by simp)
      ·rw [if_neg c7] at H
       have c7b0 : ((rd l0 x5_1) == 255) = false := beq_eq_false_iff_ne.mpr c7
       have c7b1 : ((rd l0 x5_1) != 255) = true := bne_iff_ne.mpr c7
       have H' := Aside0.mk H
       clear H
       have p998 : 0 ≤ (x5_1 : Int) := of_decide_eq_true (by first | (with_reducible assumption) | assumption)
       have q998 : x5_1 < (l0.length : Int) := of_decide_eq_true (by first | (with_reducible assumption) | assumption)
       obtain ⟨ad998, e998, hx998_0⟩ := Kd.at_int HR0.out x5_1 p998 q998
       cases e998
       replace hx998_0 := (HB.out.cell (World.block_lt_of_cell? w _ hx998_0)).trans hx998_0
       replace p998 := eq_true p998
       replace q998 := eq_true q998
       go_wp2
       go_meet
       case rel => exact ⟨_, (false), (by first | rfl | (simp; done) | (simp [*]; done)), H', ⟨by have := HK1.out; first | omega | exact Nat.le_refl _⟩, ⟨by (with_reducible repeat (first | apply Kd.R_alloc | apply Kd.R_drewN | apply Kd.R_drew)); exact HO_4.out⟩, ⟨by repeat (first | (with_reducible first | exact HB.out | apply below_alloc | apply pw_below_drewN | apply below_drew1) | exact HB.out)⟩⟩
     ·rw [if_neg c6] at H
      exact absurd H (by simp)
    case rest =>
     clear HC5
     try clear c1
     try clear p2
     try clear c4
     try clear c4b0
     try clear c6
     try clear c6b0
     try clear p6
     try clear c7
     try clear c7b0
     try clear c7b1
     try clear c8
     try clear c8b0
     try clear c8b1
     try clear p9
     try clear q9
     try clear hx9
     try clear c10
     try clear c10b0
     try clear c11
     try clear c11b0
     try clear hx998_0
     try clear hx999_0
     try clear p2
     try clear p998
     try clear p999
     try clear q998
     try clear q999
     obtain ⟨kq, x32_4, rfl, HA, HJ4, HO_4, HB⟩ := hcut
     cases kq with
     | zero => exact absurd HA.out (by simp [impl_Unstuff.j1])
     | succ kj4 =>
      have H := HA.out
      clear HA
      simp only [impl_Unstuff.j1] at H
      by_cases c12 : x32_4 = true
      ·subst c12
       have H1 : (some (x4_1, x5_1)) = some (r1, r2) := by rw [if_pos rfl] at H; exact H
       clear H
       have H := H1
       clear H1
       simp only [Option.some.injEq, Prod.mk.injEq] at H
       obtain ⟨rfl, rfl⟩ := H
       go_wp2
       go_ret2
       exact ⟨_, by first | rfl | (simp [errW_none, errW_some] <;> rfl) | (simp [*, errW_none, errW_some] <;> rfl), by (with_reducible repeat (first | apply Kd.R_alloc | apply Kd.R_drewN | apply Kd.R_drew)); exact HO_4.out, by repeat (first | (with_reducible first | exact HB.out | apply below_alloc | apply pw_below_drewN | apply below_drew1) | exact HB.out)⟩
      ·replace c12 := Bool.eq_false_iff.mpr c12
       subst c12
       have H1 : (if 0 ≤ x5_1 then (if x5_1 < (l0.length : Int) then (if x4_1.length < 140737488355328 then ((some (x4_1 ++ [rd l0 x5_1] : List Int)).bind fun y1001 => (if (rd l0 x5_1) = 255 then (impl_Unstuff.l0 kj4 l0 y1001 (wrap64 ((wrap64 (x5_1 + 1)) + 1))) else (impl_Unstuff.l0 kj4 l0 y1001 (wrap64 (x5_1 + 1))))) else (none)) else (none)) else (none)) = some (r1, r2) := by rw [if_neg (show ¬ (false = true) by decide)] at H; exact H
       clear H
       have H := H1
       clear H1
       by_cases c13 : 0 ≤ x5_1
       ·rw [if_pos c13] at H
        have c13b0 : decide (0 ≤ x5_1) = true := decide_eq_true c13
        clear c13
        by_cases c14 : x5_1 < (l0.length : Int)
        ·rw [if_pos c14] at H
         have c14b0 : decide (x5_1 < (l0.length : Int)) = true := decide_eq_true c14
         clear c14
         by_cases c15 : x4_1.length < 140737488355328
         ·rw [if_pos c15] at H
          have LMc15 := Aside0.mk c15
          clear c15
          obtain ⟨y1001, hy1001⟩ : ∃ y_ : List Int, y_ = (x4_1 ++ [rd l0 x5_1]) := ⟨_, rfl⟩
          replace H : (if (rd l0 x5_1) = 255 then (impl_Unstuff.l0 kj4 l0 y1001 (wrap64 ((wrap64 (x5_1 + 1)) + 1))) else (impl_Unstuff.l0 kj4 l0 y1001 (wrap64 (x5_1 + 1)))) = some (r1, r2) := by first | (rw [hy1001]; with_reducible exact H) | (have H2_ := (Option.bind_some _ _).symm.trans H; rw [hy1001]; with_reducible exact H2_) | (have H2_ := (Option.bind_some _ _).symm.trans H; with_reducible exact H2_) | with_reducible exact H | (rw [hy1001]; exact H) | exact H
          have Ny1001 := Aside0.mk hy1001
          clear hy1001
          by_cases c16 : (rd l0 x5_1) = 255
          ·rw [if_pos c16] at H
           have c16b0 : ((rd l0 x5_1) == 255) = true := beq_iff_eq.mpr c16
           have c16b1 : ((rd l0 x5_1) != 255) = false := bne_eq_false_iff_eq.mpr c16
           clear c16
           have H' := Aside0.mk H
           clear H
           have p1000 : 0 ≤ (x5_1 : Int) := of_decide_eq_true (by first | (with_reducible assumption) | assumption)
           have q1000 : x5_1 < (l0.length : Int) := of_decide_eq_true (by first | (with_reducible assumption) | assumption)
           obtain ⟨ad1000, e1000, hx1000_0⟩ := Kd.at_int HR0.out x5_1 p1000 q1000
           cases e1000
           replace hx1000_0 := (HB.out.cell (World.block_lt_of_cell? w _ hx1000_0)).trans hx1000_0
           replace p1000 := eq_true p1000
           replace q1000 := eq_true q1000
           go_wp2_with (first | ((with_reducible refine gate_builtin (b := .append) (xs := #[.tmp 35, .tmp 40]) rfl ?_); (try (refine gate_guard (by rfl) ?_; dsimp only)); at_builtin; refine Kd.R_append (Kd.int .u8) (w0 := w) w.heap.size rfl (.tmp 35) (.tmp 40) 23 5 (.int .u8 0) 1 rfl Try.underlying23 info5 rfl (by decide) (by omega) u4 x4_1 (rd l0 x5_1) [.int .u8 (rd l0 x5_1)] (fun _ => True) (fun _ => False) rfl rfl ?aP (fun _ hk => hk.elim) ?aF ?aO ?aB ?aS ?aL ?_; (case aP => exact rfl); (case aB => exact (by repeat (first | (with_reducible first | exact HB.out | apply below_alloc | apply pw_below_drewN | apply below_drew1) | exact HB.out))); (case aF => exact (fun _ _ => trivial)); (case aO => exact (by (with_reducible repeat (first | apply Kd.R_alloc | apply Kd.R_drewN | apply Kd.R_drew)); exact HO_4.out)); (case aS => exact (below_size (by repeat (first | (with_reducible first | exact HB.out | apply below_alloc | apply pw_below_drewN | apply below_drew1) | exact HB.out)))); (case aL => have := LMc15.out; omega); intro v1002 w17 ho hb hg hat; rw [← Ny1001.out] at ho; have n0_ := Aside0.mk (hb); have n1_ := Aside0.mk (ho); clear HB; clear HO_4; have HB := n0_; have HO1003 := n1_; clear n0_ n1_; clear ho hb hg hat; have p1004 : 0 ≤ (x5_1 : Int) := of_decide_eq_true (by first | (with_reducible assumption) | assumption); have q1004 : x5_1 < (l0.length : Int) := of_decide_eq_true (by first | (with_reducible assumption) | assumption); obtain ⟨ad1004, e1004, hx1004_0⟩ := Kd.at_int HR0.out x5_1 p1004 q1004; obtain rfl : ad1000 = ad1004 := (by injection e1004); replace hx1004_0 := (HB.out.cell (World.block_lt_of_cell? w _ hx1004_0)).trans hx1004_0; replace p1004 := eq_true p1004; replace q1004 := eq_true q1004))
           go_roundg kj4
           case measure => have := HK1.out; have := HJ4.out; omega
           case rel => exact ⟨(y1001), (wrap64 ((wrap64 (x5_1 + 1)) + 1)), (by first | rfl | (simp; done) | (simp [*]; done)), H', ⟨by have := HK1.out; have := HJ4.out; omega⟩, ⟨by (with_reducible repeat (first | apply Kd.R_alloc | apply Kd.R_drewN | apply Kd.R_drew)); exact HO1003.out⟩, ⟨by repeat (first | (with_reducible first | exact HB.out | apply below_alloc | apply pw_below_drewN | apply below_drew1) | exact HB.out)⟩⟩
          ·rw [if_neg c16] at H
           have c16b0 : ((rd l0 x5_1) == 255) = false := beq_eq_false_iff_ne.mpr c16
           have c16b1 : ((rd l0 x5_1) != 255) = true := bne_iff_ne.mpr c16
           have H' := Aside0.mk H
           clear H
           have p1000 : 0 ≤ (x5_1 : Int) := of_decide_eq_true (by first | (with_reducible assumption) | assumption)
           have q1000 : x5_1 < (l0.length : Int) := of_decide_eq_true (by first | (with_reducible assumption) | assumption)
           obtain ⟨ad1000, e1000, hx1000_0⟩ := Kd.at_int HR0.out x5_1 p1000 q1000
           cases e1000
           replace hx1000_0 := (HB.out.cell (World.block_lt_of_cell? w _ hx1000_0)).trans hx1000_0
           replace p1000 := eq_true p1000
           replace q1000 := eq_true q1000
           go_wp2_with (first | ((with_reducible refine gate_builtin (b := .append) (xs := #[.tmp 35, .tmp 40]) rfl ?_); (try (refine gate_guard (by rfl) ?_; dsimp only)); at_builtin; refine Kd.R_append (Kd.int .u8) (w0 := w) w.heap.size rfl (.tmp 35) (.tmp 40) 23 5 (.int .u8 0) 1 rfl Try.underlying23 info5 rfl (by decide) (by omega) u4 x4_1 (rd l0 x5_1) [.int .u8 (rd l0 x5_1)] (fun _ => True) (fun _ => False) rfl rfl ?aP (fun _ hk => hk.elim) ?aF ?aO ?aB ?aS ?aL ?_; (case aP => exact rfl); (case aB => exact (by repeat (first | (with_reducible first | exact HB.out | apply below_alloc | apply pw_below_drewN | apply below_drew1) | exact HB.out))); (case aF => exact (fun _ _ => trivial)); (case aO => exact (by (with_reducible repeat (first | apply Kd.R_alloc | apply Kd.R_drewN | apply Kd.R_drew)); exact HO_4.out)); (case aS => exact (below_size (by repeat (first | (with_reducible first | exact HB.out | apply below_alloc | apply pw_below_drewN | apply below_drew1) | exact HB.out)))); (case aL => have := LMc15.out; omega); intro v1002 w18 ho hb hg hat; rw [← Ny1001.out] at ho; have n0_ := Aside0.mk (hb); have n1_ := Aside0.mk (ho); clear HB; clear HO_4; have HB := n0_; have HO1003 := n1_; clear n0_ n1_; clear ho hb hg hat; have p1004 : 0 ≤ (x5_1 : Int) := of_decide_eq_true (by first | (with_reducible assumption) | assumption); have q1004 : x5_1 < (l0.length : Int) := of_decide_eq_true (by first | (with_reducible assumption) | assumption); obtain ⟨ad1004, e1004, hx1004_0⟩ := Kd.at_int HR0.out x5_1 p1004 q1004; obtain rfl : ad1000 = ad1004 := (by injection e1004); replace hx1004_0 := (HB.out.cell (World.block_lt_of_cell? w _ hx1004_0)).trans hx1004_0; replace p1004 := eq_true p1004; replace q1004 := eq_true q1004))
           go_roundg kj4
           case measure => have := HK1.out; have := HJ4.out; omega
           case rel => exact ⟨(y1001), (wrap64 (x5_1 + 1)), (by first | rfl | (simp; done) | (simp [*]; done)), H', ⟨by have := HK1.out; have := HJ4.out; omega⟩, ⟨by (with_reducible repeat (first | apply Kd.R_alloc | apply Kd.R_drewN | apply Kd.R_drew)); exact HO1003.out⟩, ⟨by repeat (first | (with_reducible first | exact HB.out | apply below_alloc | apply pw_below_drewN | apply below_drew1) | exact HB.out)⟩⟩
         ·rw [if_neg c15] at H
          exact absurd H (by simp)
        ·rw [if_neg c14] at H
         exact absurd H (by simp)
       ·rw [if_neg c13] at H
        exact absurd H (by simp)
   ·rw [if_neg c4] at H
    have c4b0 : decide (x5_1 < (l0.length : Int)) = false := decide_eq_false c4
    clear c4
    simp only [Option.some.injEq, Prod.mk.injEq] at H
    obtain ⟨rfl, rfl⟩ := H
    go_wp2
    go_ret2
    exact ⟨_, by first | rfl | (simp [errW_none, errW_some] <;> rfl) | (simp [*, errW_none, errW_some] <;> rfl), by (with_reducible repeat (first | apply Kd.R_alloc | apply Kd.R_drewN | apply Kd.R_drew)); exact HO_4.out, by repeat (first | (with_reducible first | exact HB.out | apply below_alloc | apply pw_below_drewN | apply below_drew1) | exact HB.out)⟩
theorem un_impl (b : List Int) (hb : b.length ≤ 1048576) : Ev (fun k => impl_Unstuff.f k b) ((un b).1, ((un b).2 : Int)) := by
 unfold impl_Unstuff.f
 have key : ∀ n i : Nat, ∀ out : List Int, b.length - i ≤ n → i ≤ b.length → out.length ≤ i → Ev (fun k => impl_Unstuff.l0 k b out (i : Int)) (out ++ (un (b.drop i)).1, ((i + (un (b.drop i)).2 : Nat) : Int)) := by
  intro n
  induction n with
  | zero =>
   intro i out hn hi ho
   obtain rfl : i = b.length := by omega
   refine Ev.step (fun _ => by rw [impl_Unstuff.l0]) (Ev.ng (by omega) (Ev.eq (Ev.now _) ?_))
   rw [List.drop_length]
   simp [un]
  | succ n ih =>
   intro i out hn hi ho
   by_cases hlt : i < b.length
   ·refine Ev.step (fun _ => by rw [impl_Unstuff.l0]) (Ev.ip (by omega) (Ev.ip (by omega) ?_))
    rw [rd_nat b i hlt, wrap_succ i (by omega)]
    by_cases hx : b[i] = 255
    ·refine Ev.ip hx ?_
     by_cases he : i + 1 = b.length
     ·refine Ev.ip (by omega) (Ev.step (fun _ => by rw [impl_Unstuff.j1]) (Ev.ip rfl (Ev.eq (Ev.now _) ?_)))
      rw [drop_last b i hlt he, hx, un_one]
      simp
     ·refine Ev.ng (by omega) (Ev.ip (by omega) (Ev.ip (by omega) ?_))
      rw [rd_nat b (i + 1) (by omega)]
      by_cases hy : b[i + 1] = 0
      ·rw [hy]
       refine Ev.step (fun _ => by rw [impl_Unstuff.j1]) (Ev.ng (by decide) (Ev.ip (by omega) (Ev.ip (by omega) (Ev.ip (by omega) (Ev.bind (Ev.c rfl) ?_)))))
       rw [rd_nat b i hlt]
       refine Ev.ip hx ?_
       rw [wrap_succ i (by omega), wrap_succ (i + 1) (by omega)]
       refine Ev.eq (ih (i + 2) (out ++ [b[i]]) (by omega) (by omega) (by simp; omega)) ?_
       rw [drop_two b i (by omega), hx, hy, un_two]
       simp
       omega
      ·refine Ev.step (fun _ => by rw [impl_Unstuff.j1]) (Ev.ip (by simp [hy]) (Ev.eq (Ev.now _) ?_))
       rw [drop_two b i (by omega), hx, un_stop _ _ hy]
       simp
    ·refine Ev.ng hx (Ev.step (fun _ => by rw [impl_Unstuff.j1]) (Ev.ng (by decide) (Ev.ip (by omega) (Ev.ip (by omega) (Ev.ip (by omega) (Ev.bind (Ev.c rfl) ?_))))))
     rw [rd_nat b i hlt]
     refine Ev.ng hx ?_
     rw [wrap_succ i (by omega)]
     refine Ev.eq (ih (i + 1) (out ++ [b[i]]) (by omega) (by omega) (by simp; omega)) ?_
     rw [List.drop_eq_getElem_cons hlt, un_ne _ _ hx]
     simp
     omega
   ·obtain rfl : i = b.length := by omega
    refine Ev.step (fun _ => by rw [impl_Unstuff.l0]) (Ev.ng (by omega) (Ev.eq (Ev.now _) ?_))
    rw [List.drop_length]
    simp [un]
 have := key _ 0 [] (Nat.le_refl _) (by omega) (by simp)
 simpa using this
end Go.Proofs.Ytcjjmfpkhhdmlaa.G

namespace Go.Proofs.Ytcjjmfpkhhdmlaa.G
open Go.RowKit Go.Proofs.YtcjjmfpkhhdmlaaW.PrintWords Go.Proofs.YtcjjmfpkhhdmlaaW.PrintLast Go.Proofs.YtcjjmfpkhhdmlaaW.PrintMore
attribute [local go_sem] max2_int min2_int max_two min_two max_three min_three max_four min_four   -- for this text's walks alone
--import Derived.WalkSpells
/-! slices.Clone of bytes -/
theorem eql_slice_nil {P : Program} (w : World) (t e : TypeId) (a : Option Addr) (n c n' c' : Nat) (h : P.underlying t = some (.slice e)) :
  (binOp .eql t (.slice a n c) (.slice none n' c')).run P w = .ok (.bool a.isNone) w := by
 simp only [binOp]
 simp [Op.equal, Op.maxDepth, Lib.run_equalIn_slice_nil w 9999 t e a n c n' c' h]
set_option maxRecDepth 100000 in
set_option maxHeartbeats 4000000 in
theorem clone_calls (A : Option Addr) (c : Nat) (l : List Int) (w : World) (hr : Kd.C (Kd.int .u8) w A l.length l) (hc : l.length ≤ c) (hl : l.length ≤ 1099511627776) :
  Calls Try.prog 168 #[.slice A l.length c] w fun e w' => ∃ v : Value, e = .returned v ∧ Kd.R (Kd.int .u8) 5 w' w.heap.size (fun _ => True) v l ∧ Below w.heap.size w w' := by
 cases A with
 | none =>
  have h0 : l = [] := by
   cases l with
   | nil => rfl
   | cons x l =>
    obtain ⟨ad, e, _⟩ := Kd.at_int hr 0 (by omega) (by simp)
    cases e
  subst h0
  clear hr hc hl
  have he := eql_slice_nil (P := Try.prog) w 23 5 none 0 c 0 0 Try.underlying23
  go_enter Try.func168, Try.ntmps168
  go_wp2
  go_ret
  exact ⟨_, rfl, Kd.R_nil _ _ _ _ _, Below.refl _ _⟩
 | some ad =>
  have HR := Aside0.mk hr
  have HC := Aside0.mk hc
  clear hr hc
  have he := eql_slice_nil (P := Try.prog) w 23 5 (some ad) l.length c 0 0 Try.underlying23
  go_enter Try.func168, Try.ntmps168
  go_wp2_with (first | ((with_reducible refine gate_dst (N := 5) rfl ?_); refine Kd.R_lit (w0 := w) (Kd.int .u8) w.heap.size 5 ?hg (N := 5) ?hd (xs := ([] : List Int)) (inner := []) (ok := fun _ => True) (okp := fun _ => True) ?hr ?hp (fun _ hk => hk) trivial (Below.refl _ _) (Nat.le_refl _) (by simp) ?_; (case hd => rfl); (case hg => rfl); (case hr => first | (go_simp; done) | (go_simp; rfl)); (case hp => exact (Reps.none _ _)); intro v5 W1 ho hb hg_ hnew_; have HO := Aside0.mk ho; have HB := Aside0.mk hb; clear ho hb hg_ hnew_) | ((with_reducible refine gate_builtin (b := .append) (xs := #[.tmp 5, .tmp 6]) rfl ?_); at_builtin; refine Kd.R_append_rows (Kd.int .u8) (w0 := w) w.heap.size rfl (.tmp 5) (.tmp 6) 23 5 (.int .u8 0) 1 rfl Try.underlying23 info5 rfl (by decide) (by omega) _ [] l _ _ _ (fun _ => True) (fun _ => False) rfl rfl HO.out (Kd.C_below HR.out HB.out) (fun _ _ h => h) (fun _ h => h.elim) (fun _ _ => trivial) HB.out HB.out.size (by simp; omega) ?_; intro v7 w3 ho hb hg hat; have HO3 := Aside0.mk ho; have HB3 := Aside0.mk hb; clear ho hb hg hat))
  go_ret
  exact ⟨_, rfl, HO3.out, HB3.out⟩
end Go.Proofs.Ytcjjmfpkhhdmlaa.G

namespace Go.Proofs.Ytcjjmfpkhhdmlaa.G
open Go.RowKit Go.Proofs.YtcjjmfpkhhdmlaaW.PrintWords Go.Proofs.YtcjjmfpkhhdmlaaW.PrintLast Go.Proofs.YtcjjmfpkhhdmlaaW.PrintMore
attribute [local go_sem] max2_int min2_int max_two min_two max_three min_three max_four min_four   -- for this text's walks alone
--import Derived.BigRegion
/-! the program's reader of bits -/
def BR (w0 W : World) (g : Nat) (b : List Int) (bits many : Int) : Prop := ∃ A c, W.heap[g]? = some (.cells #[.slice A b.length c, .int .i64 bits, .int .i64 many] 100 (0, 0)) ∧ w0.heap.size ≤ g ∧ Kd.C (Kd.int .u8) w0 A b.length b ∧ b.length ≤ c
theorem BR.below {w0 W W1 : World} {g : Nat} {b : List Int} {bits many : Int} (h : BR w0 W g b bits many) (hb : Below W.heap.size W W1) : BR w0 W1 g b bits many := by
 obtain ⟨A, c, h1, h2⟩ := h
 exact ⟨A, c, (hb.block g (blk_lt h1)).trans h1, h2⟩
theorem BR.drewN {w0 W : World} {g : Nat} {b : List Int} {bits many : Int} (h : BR w0 W g b bits many) (n : Nat) : BR w0 (W.drewN n) g b bits many := h
theorem BR.grown {w0 W W1 : World} {g : Nat} {b : List Int} {bits many : Int} {row : Option Nat} (h : BR w0 W g b bits many) (hg : W.grownBy W1 row) (hne : some g ≠ row) : BR w0 W1 g b bits many := by
 obtain ⟨A, c, h1, h2⟩ := h
 exact ⟨A, c, blk_grown h1 hg hne, h2⟩
/-- bytes are taken until there are n bits -/
def fillM (n : Int) : List Int → Int → Int → Option (List Int × Int × Int)
 | [], q, m => if m < n then none else some ([], q, m)
 | x :: b, q, m => if m < n then fillM n b (q * 256 + x) (m + 8) else some (x :: b, q, m)
theorem fillM_more {n : Int} {x : Int} {b : List Int} {q m : Int} (h : m < n) : fillM n (x :: b) q m = fillM n b (q * 256 + x) (m + 8) := by simp [fillM, h]
theorem fillM_done {n : Int} {b : List Int} {q m : Int} (h : ¬ m < n) : fillM n b q m = some (b, q, m) := by cases b <;> simp [fillM, h]
theorem pow_cast (k B : Nat) (h : 2 ^ k ≤ B) : (2 : Int) ^ k ≤ (B : Int) := by
 have h3 := Int.ofNat_le.2 h
 rw [Int.natCast_pow] at h3
 exact h3
theorem pow_one (k : Nat) : (1 : Int) ≤ 2 ^ k := by
 have h3 := Int.ofNat_le.2 (Nat.one_le_two_pow (n := k))
 rw [Int.natCast_pow] at h3
 exact h3
theorem pow_le16 (m n : Int) (h : m < n) (hn : n ≤ 16) : (2 : Int) ^ m.toNat ≤ 65536 := by
 have h1 : m.toNat ≤ 16 := by omega
 have h2 := Nat.pow_le_pow_right (n := 2) (by decide) h1
 exact pow_cast _ 65536 h2
theorem or_byte (q x : Int) (h0 : 0 ≤ q) (h1 : q ≤ 65536) (hx0 : 0 ≤ x) (hx1 : x ≤ 255) : Go.bits .or .i64 (q * 256) x = q * 256 + x :=
 bits_join .i64 62 (by decide) (fun n h0 h1 => by rw [IntKind.wrap_i64]; omega) 8 (q * 256) x (by omega) (by omega) (by omega) hx0 (by omega) (by omega)
theorem and_mask (q : Int) (k : Nat) (h0 : 0 ≤ q) (h1 : q < 16777216) (hk : k ≤ 23) : Go.bits .and .i64 q (wrap64 (wrap64 (2 ^ k) - 1)) = q % 2 ^ k := by
 have h2 := Nat.pow_le_pow_right (n := 2) (by decide) hk
 have h3 : (2 : Int) ^ k ≤ 8388608 := pow_cast _ 8388608 h2
 have h4 : (1 : Int) ≤ 2 ^ k := pow_one k
 rw [wrap_in (2 ^ k) (by omega) (by omega), wrap_in _ (by omega) (by omega)]
 exact bits_mask .i64 62 (by decide) (fun n h0 h1 => by rw [IntKind.wrap_i64]; omega) k (by omega) q h0 (by omega)
theorem pow_bits (m : Int) (h0 : 0 ≤ m) (h : m ≤ 23) : (2 : Int) ^ m.toNat ≤ 8388608 := by
 have h1 : m.toNat ≤ 23 := by omega
 have h2 := Nat.pow_le_pow_right (n := 2) (by decide) h1
 exact pow_cast _ 8388608 h2
theorem BR.shift {w0 W : World} {g c : Nat} {x : Int} {b : List Int} {q m q' m' : Int} {ad : Addr} (hb : W.heap[g]? = some (.cells #[.slice (some ad) (x :: b).length c, .int .i64 q, .int .i64 m] 100 (0, 0))) (hg : w0.heap.size ≤ g) (hC : Kd.C (Kd.int .u8) w0 (some ad) (x :: b).length (x :: b)) (hc : (x :: b).length ≤ c) :
  BR w0 (((W.setCell ⟨g, 1, none⟩ (.int .i64 q')).setCell ⟨g, 2, none⟩ (.int .i64 m')).setCell ⟨g, 0, none⟩ (.slice (if c = 1 then some ad else some (ad.add 1)) b.length (c - 1))).drew g b q' m' := by
 have hD := Kd.C_drop (m := 1) hC (by simp) hc
 rw [show (some ad).map (·.add (1 * (Kd.int .u8).sz)) = some (ad.add 1) from rfl] at hD
 refine ⟨_, c - 1, ?_, hg, hD, by simp at hc; omega⟩
 have h6 := blk_set (blk_set (blk_set hb 1 (.int .i64 q')) 2 (.int .i64 m')) 0 (.slice (if c = 1 then some ad else some (ad.add 1)) b.length (c - 1))
 exact h6
def TakeRel (w0 : World) (g : Nat) (n : Int) (R : Option (List Int × Int × Int)) (kq : Nat) (w w' : World) : Prop :=
 ∃ (b : List Int) (q m : Int), Aside0 (BR w0 w' g b q m) ∧ Aside0 (Below w0.heap.size w0 w') ∧ Aside0 (∀ x ∈ b, 0 ≤ x ∧ x ≤ 255) ∧ Aside0 (fillM n b q m = R) ∧ Aside0 (KeepBut w w' g none) ∧ Aside0 (q < 2 ^ m.toNat) ∧ kq = b.length + 1 ∧ 0 ≤ q ∧ 0 ≤ m ∧ m ≤ 23
def TakePost (w0 : World) (g : Nat) (n : Int) (R : Option (List Int × Int × Int)) (w : World) (e : Ending) (w' : World) : Prop :=
 Below w0.heap.size w0 w' ∧ KeepBut w w' g none ∧
 match R with
 | none => e = .returned (.tuple #[.int .i64 0, .bool false])
 | some (b, q, m) => e = .returned (.tuple #[.int .i64 (q / 2 ^ (m - n).toNat), .bool true]) ∧ BR w0 w' g b (q % 2 ^ (m - n).toNat) (m - n) ∧ (∀ x ∈ b, 0 ≤ x ∧ x ≤ 255) ∧ n ≤ m ∧ m ≤ 23
theorem keep_set {w W : World} {g : Nat} (h : KeepBut w W g none) (i : Nat) (u : Value) : KeepBut w (W.setCell ⟨g, i, none⟩ u) g none :=
 ⟨by simpa [World.setCell] using h.1, fun k hk hg hr => (Below.heap_setCell W ⟨g, i, none⟩ u k hg).trans (h.2 k hk hg hr)⟩
set_option maxRecDepth 100000 in
set_option maxHeartbeats 4000000 in
theorem take_calls (w0 w : World) (g : Nat) (b : List Int) (q m n : Int) (R : Option (List Int × Int × Int)) (hB : Below w0.heap.size w0 w) (h : BR w0 w g b q m) (h0 : 0 ≤ q) (h1 : q < 2 ^ m.toNat) (h2 : 0 ≤ m) (h3 : m ≤ 23) (h4 : 0 ≤ n) (h5 : n ≤ 16) (hbb : ∀ x ∈ b, 0 ≤ x ∧ x ≤ 255) (hR : fillM n b q m = R) :
  Calls Try.prog 147 #[.pointer (some ⟨g, 0, none⟩), .int .i64 n] w (TakePost w0 g n R w) := by
 have HR := Aside0.mk h
 have HB := Aside0.mk hB
 have HBB := Aside0.mk hbb
 have HF := Aside0.mk hR
 have HQ := Aside0.mk h1
 clear h hB hbb hR h1
 go_enter Try.func147, Try.ntmps147
 go_wp2
 go_loopg [] (b.length + 1) (fun kq w' => TakeRel w0 g n R kq w w')
 case atStart => exact ⟨b, q, m, HR, HB, HBB, HF, ⟨⟨Nat.le_refl _, fun _ _ _ _ => rfl⟩⟩, HQ, rfl, h0, h2, h3⟩
 case round =>
  clear HR HB HBB HF HQ h0 h2 h3
  obtain ⟨b', q', m', HR, HB, HBB, HF, HK, HQ, rfl, p0, p2, p3⟩ := hrel
  obtain ⟨A, c, hb, hg, hC, hc⟩ := HR.out
  have k0 := blk_cell hb 0
  have k1 := blk_cell hb 1
  have k2 := blk_cell hb 2
  simp at k0 k1 k2
  have f0 := blk_frozen hb 0
  have f1 := blk_frozen hb 1
  have f2 := blk_frozen hb 2
  have HBL := Aside0.mk hb
  have HG := Aside0.mk hg
  have HC := Aside0.mk hC
  have HCL := Aside0.mk hc
  clear hb hg
  by_cases hlt : m' < n
  ·have p1 : q' ≤ 65536 := by have := pow_le16 m' n hlt h5; have := HQ.out; omega
   cases b' with
   | nil =>
    clear hC hc
    go_wp2
    go_ret2
    have : R = none := by rw [← HF.out]; simp [fillM, hlt]
    subst this
    exact ⟨HB.out, HK.out, rfl⟩
   | cons x b'' =>
    obtain ⟨ad, e1, hcell⟩ := Kd.at_int hC 0 (by omega) (by simp)
    cases e1
    replace hcell := (HB.out.cell (World.block_lt_of_cell? w0 _ hcell)).trans hcell
    rw [show (0 : Int).toNat = 0 from rfl, Addr.add_zero', show rd (x :: b'') 0 = x from rfl] at hcell
    obtain ⟨hx0, hx1⟩ := HBB.out x List.mem_cons_self
    clear hC hc
    have hor := or_byte q' x p0 p1 hx0 hx1
    have HOR := Aside0.mk hor
    clear hor
    have hcl := HCL.out
    simp only [List.length_cons] at hcl
    by_cases hc1 : c = 1
    all_goals
     (try subst hc1)
     have HCC := Aside0.mk hcl
     clear hcl
     go_wp2
     go_region
     go_wp2
     go_roundg (b''.length + 1)
     case rel =>
      refine ⟨b'', q' * 256 + x, m' + 8, ⟨?_⟩, ⟨?_⟩, ⟨fun y hy => HBB.out y (List.mem_cons_of_mem _ hy)⟩, ⟨?_⟩, ⟨?_⟩, ⟨?_⟩, rfl, by omega, by omega, by omega⟩
      ·have h7 := BR.shift (q' := q' * 256 + x) (m' := m' + 8) HBL.out HG.out HC.out HCL.out
       rw [HOR.out]
       first | exact h7 | (rw [if_neg hc1] at h7; exact h7)
      ·exact below_drew (below_set (below_set (below_set HB.out HG.out) HG.out) HG.out)
      ·rw [← HF.out, fillM_more hlt]
      ·exact keep_set (keep_set (keep_set HK.out _ _) _ _) _ _
      ·have := HQ.out
       rw [show (m' + 8).toNat = m'.toNat + 8 by omega, Int.pow_add]
       omega
     case measure => simp
  ·have p1 := pow_bits m' p2 p3
   have p4 : q' < 16777216 := by have := HQ.out; omega
   clear hC hc
   go_wp2
   go_quiet (fail)
   go_wp2
   go_region
   go_wp2
   go_ret2
   have hR : R = some (b', q', m') := by rw [← HF.out, fillM_done (by omega)]
   subst hR
   refine ⟨below_set (pw_below_drewN (below_set HB.out HG.out) _) HG.out, keep_set (keep_set HK.out _ _) _ _, rfl, ?_, HBB.out, by omega, p3⟩
   rw [and_mask q' _ p0 p4 (by omega)]
   refine ⟨A, c, ?_, HG.out, HC.out, HCL.out⟩
   have h6 := blk_set (blk_set HBL.out 2 (.int .i64 (m' - n))) 1 (.int .i64 (q' % 2 ^ (m' - n).toNat))
   exact h6
/-- the numbers of so many bits each, told from the bytes, the bits that are over, and how many these are -/
def unpackI : List Int → List Int → Int → Int → Option (List Int)
 | [], _, _, _ => some []
 | n :: ns, b, q, m => if 0 ≤ n ∧ n ≤ 16 then
   match fillM n b q m with
   | none => none
   | some (b', q', m') => (unpackI ns b' (q' % 2 ^ (m' - n).toNat) (m' - n)).map (q' / 2 ^ (m' - n).toNat :: ·)
  else none
/-- bytes -/
def isB (b : List Int) : Bool := b.all fun x => decide (0 ≤ x) && decide (x ≤ 255)
theorem isB_all {b : List Int} (h : isB b = true) : ∀ x ∈ b, 0 ≤ x ∧ x ≤ 255 := by
 unfold isB at h; simp only [List.all_eq_true, Bool.and_eq_true, decide_eq_true_eq] at h; exact h
end Go.Proofs.Ytcjjmfpkhhdmlaa.G

namespace Go.Proofs.Ytcjjmfpkhhdmlaa.G
open Go.RowKit Go.Proofs.YtcjjmfpkhhdmlaaW.PrintWords Go.Proofs.YtcjjmfpkhhdmlaaW.PrintLast Go.Proofs.YtcjjmfpkhhdmlaaW.PrintMore
attribute [local go_sem] max2_int min2_int max_two min_two max_three min_three max_four min_four   -- for this text's walks alone
--import Derived.BigRegion
--import Derived.Deep.CutRange
--import Derived.Deep.RegionHeld3
--import Derived.Deep.CutBlock
--import Derived.Deep.RegionLaw
/-! the program's reader of segments, walked -/
def SegK (w0 W : World) (g gq : Nat) (A : Option Addr) (c : Nat) (b : List Int) (at_ : Nat) (l : List S131) : Prop :=
 Below w0.heap.size w0 W ∧ ∃ v, W.heap[g]? = some (.cells #[.slice A b.length c, .int .i64 (at_ : Int), v] 136 (0, 0)) ∧ Kd.S k131 131 W w0.heap.size (fun _ => True) v l ∧ W.heap[gq]? = some (.cells #[.int .i64 0, .int .i64 0] 65 (0, 0))
theorem SegK.fin {w0 W : World} {g gq gr : Nat} {A : Option Addr} {c : Nat} {b : List Int} {at_ : Nat} {l : List S131} (h : SegK w0 W g gq A c b at_ l) {x y : Value} (hr : W.heap[gr]? = some (.cells #[x, y] 65 (0, 0))) (hne : g ≠ gr) (hqr : gq ≠ gr) (hg : w0.heap.size ≤ gr) (C P : Value) :
  SegK w0 ((W.setCell ⟨gr, 0, none⟩ C).setCell ⟨gr, 1, none⟩ P) g gq A c b at_ l ∧ ((W.setCell ⟨gr, 0, none⟩ C).setCell ⟨gr, 1, none⟩ P).heap[gr]? = some (.cells #[C, P] 65 (0, 0)) := by
 obtain ⟨h1, v, h2, h3, h4⟩ := h
 refine ⟨⟨below_set (below_set h1 hg) hg, v, blk_far (blk_far h2 hne _) hne _, ?_, blk_far (blk_far h4 hqr _) hqr _⟩, ?_⟩
 ·exact Kd.S_mono (Kd.S_far (p := ⟨gr, 1, none⟩) (Kd.S_far (p := ⟨gr, 0, none⟩) (Kd.S_types h3 hr (by decide)) (fun k hk => hk.2) _) (fun k hk => hk.2) _) (fun _ _ => trivial)
 ·exact blk_set (blk_set hr 0 C) 1 P
theorem SegK.drewN {w0 W : World} {g gq : Nat} {A : Option Addr} {c : Nat} {b : List Int} {at_ : Nat} {l : List S131} (h : SegK w0 W g gq A c b at_ l) (n : Nat) : SegK w0 (W.drewN n) g gq A c b at_ l := by
 obtain ⟨h1, v, h2, h3, h4⟩ := h
 exact ⟨pw_below_drewN h1 n, v, h2, Kd.S_drewN h3 n, h4⟩
theorem SegK.drew {w0 W : World} {g gq : Nat} {A : Option Addr} {c : Nat} {b : List Int} {at_ : Nat} {l : List S131} (h : SegK w0 W g gq A c b at_ l) : SegK w0 W.drew g gq A c b at_ l := by
 obtain ⟨h1, v, h2, h3, h4⟩ := h
 exact ⟨below_drew h1, v, h2, Kd.S_drew h3, h4⟩
theorem SegK.at_ {w0 W : World} {g gq : Nat} {A : Option Addr} {c : Nat} {b : List Int} {at_ : Nat} {l : List S131} (h : SegK w0 W g gq A c b at_ l) (hg : w0.heap.size ≤ g) (hqg : gq ≠ g) (n : Nat) : SegK w0 (W.setCell ⟨g, 1, none⟩ (.int .i64 (n : Int))) g gq A c b n l := by
 obtain ⟨h1, v, h2, h3, h4⟩ := h
 exact ⟨below_set h1 hg, v, blk_set h2 1 _, Kd.S_set h3 h2 (by decide) 1 _, blk_far h4 hqg _⟩
theorem S_ok2 {α : Type} {d : Kd α} {e base : Nat} {w : World} {ok : Nat → Prop} {v : Value} {xs : List α} (h : Kd.S d e w base ok v xs) : ∀ k, v.ownBlock = some k → ok k := by
 obtain ⟨f, h0, _⟩ := h
 exact h0
theorem last_rd (l : List S131) (h : 0 < l.length) (h2 : l.length ≤ 300) : rd_T131 l (wrap64 ((l.length : Int) - 1)) = l.getLast (List.ne_nil_of_length_pos h) := by
 rw [wrap_in _ (by omega) (by omega)]
 unfold rd_T131
 rw [show ((l.length : Int) - 1).toNat = l.length - 1 by omega, List.getLast_eq_getElem]
 simp [show l.length - 1 < l.length by omega]
theorem mayRun_val (l : List S131) (h : l.length ≤ 300) : impl_mayRun.f l = some (mayRunM l) := by
 unfold impl_mayRun.f mayRunM
 by_cases hl : 0 < l.length
 ·rw [if_pos (by omega), if_pos (by rw [wrap_in _ (by omega) (by omega)]; omega), if_pos (by rw [wrap_in _ (by omega) (by omega)]; omega), last_rd l hl h, List.getLast?_eq_some_getLast (List.ne_nil_of_length_pos hl)]
 ·have : l = [] := List.eq_nil_of_length_eq_zero (by omega)
  subst this
  rfl
theorem mayRest_val (l : List S131) (h : l.length ≤ 300) : impl_mayRestart.f l = some (mayRestM l) := by
 unfold impl_mayRestart.f mayRestM
 by_cases hl : 0 < l.length
 ·rw [if_pos (by omega), if_pos (by rw [wrap_in _ (by omega) (by omega)]; omega), if_pos (by rw [wrap_in _ (by omega) (by omega)]; omega), last_rd l hl h, List.getLast?_eq_some_getLast (List.ne_nil_of_length_pos hl)]
 ·have : l = [] := List.eq_nil_of_length_eq_zero (by omega)
  subst this
  rfl
theorem isRest_val (m : Int) : impl_isRestart.f m = some (isRest m) := by
 unfold impl_isRestart.f isRest
 rw [impl_within.val]
 rfl
set_option maxRecDepth 100000 in
set_option maxHeartbeats 4000000 in
theorem next_calls_a (w0 W : World) (g gq : Nat) (A : Option Addr) (c : Nat) (b : List Int) (at_ : Nat) (l : List S131) (h : SegK w0 W g gq A c b at_ l) (hg : w0.heap.size ≤ g) (hqg : gq ≠ g) (hC : Kd.C (Kd.int .u8) w0 A b.length b) (hc : b.length ≤ c) (hat : at_ ≤ b.length) (hlen : b.length ≤ 60000) (hB : ∀ x ∈ b, 0 ≤ x ∧ x ≤ 255) (hl : l.length ≤ 300) (hE : ¬ (¬ (b.drop at_ = [] ∨ b.drop at_ = [255]) ∧ markM (b.drop at_) ≠ 254 ∧ badM (markM (b.drop at_)) l = false ∧ l.length ≠ 300)) :
  Calls Try.prog 133 #[.pointer (some ⟨g, 0, none⟩)] W fun e w' => e = .returned (.tuple #[.bool (nxt b at_ l).1, .agg #[.int .i64 (nxt b at_ l).2.1, .int .i64 (nxt b at_ l).2.2.1]]) ∧ SegK w0 w' g gq A c b (nxt b at_ l).2.2.2.1 (nxt b at_ l).2.2.2.2 := by
 obtain ⟨hbel, v, hk, hS, hq⟩ := h
 have HQ := Aside0.mk hq
 have k0 := blk_cell hk 0
 have k1 := blk_cell hk 1
 have k2 := blk_cell hk 2
 simp at k0 k1 k2
 obtain ⟨Al, cl, el⟩ := Kd.S_slice hS
 subst el
 have HBEL := Aside0.mk hbel
 have HK := Aside0.mk hk
 have HS := Aside0.mk hS
 have HCB := Aside0.mk hC
 have HCC := Aside0.mk hc
 have HBB := Aside0.mk hB
 have hatc : at_ ≤ c := by omega
 have HE := Aside0.mk hE
 clear hE
 clear hbel hk hS hC hB hq
 obtain ⟨R, hR⟩ : ∃ R, R = nxt b at_ l := ⟨_, rfl⟩
 rw [← hR]
 have HRR := Aside0.mk hR
 clear hR
 go_enter Try.func133, Try.ntmps133
 go_upto_region 1 with (fail)
 have hr := blk_new W (Obj.cells #[.int .i64 0, .int .i64 0] 65)
 have HK1 := Aside0.mk (blk_alloc HK.out (Obj.cells #[.int .i64 0, .int .i64 0] 65))
 have HS1 := Aside0.mk (Kd.S_alloc HS.out (Obj.cells #[.int .i64 0, .int .i64 0] 65))
 have HB1 := Aside0.mk (below_alloc HBEL.out (Obj.cells #[.int .i64 0, .int .i64 0] 65))
 have hgr : g ≠ W.heap.size := by have := blk_lt HK.out; omega
 have hqr : gq ≠ W.heap.size := by have := blk_lt HQ.out; omega
 have HQ1 := Aside0.mk (blk_alloc HQ.out (Obj.cells #[.int .i64 0, .int .i64 0] 65))
 have hgw : w0.heap.size ≤ W.heap.size := HBEL.out.size
 generalize W.heap.size = gr at hr hgr hqr hgw ⊢
 generalize W.alloc (Obj.cells #[.int .i64 0, .int .i64 0] 65) = W1 at hr HK1 HS1 HB1 HQ1 ⊢
 clear k0 k1 k2 HK HS HBEL HQ
 have k0 := blk_cell HK1.out 0
 have k1 := blk_cell HK1.out 1
 have k2 := blk_cell HK1.out 2
 simp at k0 k1 k2
 have HR := Aside0.mk hr
 clear hr
 go_wp2
 go_quiet (fail)
 go_upto_block 0 with (fail)
 obtain ⟨rest, hrest⟩ : ∃ rest, rest = b.drop at_ := ⟨_, rfl⟩
 have hrl : b.length - at_ = rest.length := by rw [hrest, List.length_drop]
 have hrc : Kd.C (Kd.int .u8) w0 (if c = at_ then A else A.map (·.add at_)) rest.length rest := by
  have h9 := Kd.C_drop HCB.out hat HCC.out
  rw [show (Kd.int IntKind.u8).sz = 1 from rfl] at h9
  simp only [Nat.mul_one] at h9
  rw [hrest]
  exact h9
 rw [hrl]
 generalize (if c = at_ then A else Option.map (fun x => x.add at_) A) = Ar at hrc ⊢
 have hrcc : rest.length ≤ c - at_ := by rw [← hrl]; omega
 have HRC := Aside0.mk hrc
 have HRCC := Aside0.mk hrcc
 have HREST := Aside0.mk hrest
 have HRL := Aside0.mk hrl
 have HRB := Aside0.mk (show ∀ x ∈ rest, 0 ≤ x ∧ x ≤ 255 from fun x hx => HBB.out x (by rw [hrest] at hx; exact List.mem_of_mem_drop hx))
 have HSG : Aside0 (SegK w0 (W1.drewN nq) g gq A c b at_ l) := ⟨pw_below_drewN HB1.out nq, _, HK1.out, Kd.S_drewN HS1.out nq, HQ1.out⟩
 have HR2 : Aside0 ((W1.drewN nq).heap[gr]? = some (.cells #[.int .i64 0, .int .i64 0] 65 (0, 0))) := ⟨HR.out⟩
 have HRC1 := Aside0.mk (Kd.C_below hrc HSG.out.1)
 generalize hcr : c - at_ = cr at HRCC ⊢
 generalize W1.drewN nq = W2 at HSG HR2 HRC1 ⊢
 clear hrest hrl hrc hrcc HK1 HS1 HB1 HQ1 HR k0 k1 k2 hcr
 have j0 : W2.cell? ⟨g, 0, none⟩ = some (.slice A b.length c) := by obtain ⟨_, v, h2, _⟩ := HSG.out; exact blk_cell h2 0
 have j1 : W2.cell? ⟨g, 1, none⟩ = some (.int .i64 (at_ : Int)) := by obtain ⟨_, v, h2, _⟩ := HSG.out; exact blk_cell h2 1
 have r0 : W2.cell? ⟨gr, 0, none⟩ = some (.int .i64 0) := blk_cell HR2.out 0
 have r1 : W2.cell? ⟨gr, 1, none⟩ = some (.int .i64 0) := blk_cell HR2.out 1
 have f0 : W2.frozen? ⟨gr, 0, none⟩ = false := blk_frozen HR2.out 0
 have f1 : W2.frozen? ⟨gr, 1, none⟩ = false := blk_frozen HR2.out 1
 by_cases hend : rest = [] ∨ rest = [255]
 ·have hRe : R = (false, 3, (b.length : Int), at_, l) := by rw [HRR.out, nxt, ← HREST.out, if_pos hend]
  subst hRe
  rcases hend with he | he
  ·subst he
   go_wp2
   go_region
   go_wp2
   obtain ⟨e1_, e2_⟩ := SegK.fin HSG.out HR2.out hgr hqr hgw (.int .i64 3) (.int .i64 b.length)
   refine bodyPost_ret (results_list (rs := [.tmp 2, .cell 3 65]) rfl (by simp) (.tmp (.cell gr 65 #[.int .i64 3, .int .i64 b.length] (0, 0) _ rfl (by exact e2_) Try.underlying65 rfl (by kernel_rfl) .nil))) rfl ?_
   exact ⟨rfl, by first | exact e1_.drew | exact e1_⟩
  ·subst he
   obtain ⟨ad, q1, hx⟩ := Kd.at_int HRC1.out 0 (by omega) (by simp)
   cases q1
   rw [show (0 : Int).toNat = 0 from rfl, Addr.add_zero', show rd [255] 0 = 255 from rfl] at hx
   go_wp2
   go_region
   go_wp2
   obtain ⟨e1_, e2_⟩ := SegK.fin HSG.out HR2.out hgr hqr hgw (.int .i64 3) (.int .i64 b.length)
   refine bodyPost_ret (results_list (rs := [.tmp 2, .cell 3 65]) rfl (by simp) (.tmp (.cell gr 65 #[.int .i64 3, .int .i64 b.length] (0, 0) _ rfl (by exact e2_) Try.underlying65 rfl (by kernel_rfl) .nil))) rfl ?_
   exact ⟨rfl, by first | exact e1_.drew | exact e1_⟩
 ·have hne : rest ≠ [] := fun e => hend (.inl e)
  have hlr : 0 < rest.length := List.length_pos_iff.2 hne
  obtain ⟨ad, q1, hx0⟩ := Kd.at_int HRC1.out 0 (by omega) (by omega)
  cases q1
  rw [show (0 : Int).toNat = 0 from rfl, Addr.add_zero'] at hx0
  have hx1 : 1 < rest.length → W2.cell? ⟨ad.block, ad.off + 1, none⟩ = some (.int .u8 (rd rest 1)) := fun h => by
   obtain ⟨ad', q2, hx⟩ := Kd.at_int HRC1.out 1 (by omega) (by omega)
   cases q2
   have e := add_field ad 0 1 (by omega)
   rw [Nat.zero_add, Addr.add_zero'] at e
   rw [show (1 : Int).toNat = 1 from rfl, e] at hx
   exact hx
  have HX1 := Aside0.mk hx1
  obtain ⟨b0, hb0⟩ : ∃ b0, b0 = rd rest 0 := ⟨_, rfl⟩
  obtain ⟨b1, hb1⟩ : ∃ b1, b1 = rd rest 1 := ⟨_, rfl⟩
  obtain ⟨m, hm⟩ : ∃ m, m = markM rest := ⟨_, rfl⟩
  have hm2 : m = if b0 ≠ 255 ∨ b1 = 0 then 0 else b1 := by rw [hm, markM, hb0, hb1]
  have hb0r : 0 ≤ b0 ∧ b0 ≤ 255 := by
   rw [hb0]; cases rest with
   | nil => simp at hlr
   | cons x t => exact HRB.out x List.mem_cons_self
  have hb1r : 0 ≤ b1 ∧ b1 ≤ 255 := by
   rw [hb1]; match rest with
   | [] => simp [rd]
   | [x] => simp [rd]
   | x :: y :: t => exact HRB.out y (by simp)
  have hone : rest.length = 1 → b0 ≠ 255 := by
   intro h e
   obtain ⟨x, rfl⟩ := List.length_eq_one_iff.1 h
   exact hend (.inr (by rw [← e, hb0]; rfl))
  rw [← hb0] at hx0
  have hR3 : R = if m = 254 then (true, 0, 0, at_ + 2, l) else if badM m l then (false, 4, (at_ : Int), at_, l) else if l.length = 300 then (false, 6, (at_ : Int), at_, l)
    else if m = 0 then (if 20000 < (un rest).1.length then (false, 5, (at_ : Int), at_, l) else (false, 0, 0, at_ + (un rest).2, l ++ [⟨0, (un rest).1⟩]))
    else if isRest m then (false, 0, 0, at_ + 2, l ++ [⟨m, []⟩]) else if rest.length < 4 then (false, 3, (b.length : Int), at_, l) else if 20000 < lenM rest then (false, 5, (at_ : Int), at_, l)
    else if (rest.length : Int) < 4 + lenM rest then (false, 3, (b.length : Int), at_, l) else (false, 0, 0, at_ + 4 + (lenM rest).toNat, l ++ [⟨m, (rest.drop 4).take (lenM rest).toNat⟩]) := by
   rw [HRR.out, nxt, ← HREST.out, if_neg hend, ← hm]
  have HR3 := Aside0.mk hR3
  have HB1E := Aside0.mk hb1
  have hmr : 0 ≤ m ∧ m ≤ 255 := by rw [hm2]; split <;> omega
  have HE2 := Aside0.mk (show ¬ (¬ (rest = [] ∨ rest = [255]) ∧ m ≠ 254 ∧ badM m l = false ∧ l.length ≠ 300) from by rw [hm, HREST.out]; exact HE.out)
  have HM2 := Aside0.mk hm2
  have HMM := Aside0.mk hm
  have HEND := Aside0.mk hend
  clear hx1 hb0 hb1 hm hm2 hR3 hend hne HRR
  go_cut [6] from 11 (fun v6 wx => v6 = .int .i64 m ∧ wx = W2)
  case first =>
   have z0 : ((rest.length : Int) == 0) = false := by rw [beq_eq_false_iff_ne]; omega
   by_cases h255 : b0 = 255
   ·have h1 : 1 < rest.length := by
     rcases Nat.lt_or_ge 1 rest.length with h | h
     ·exact h
     ·exact absurd h255 (hone (by omega))
    have z1 : ((rest.length : Int) == 1) = false := by rw [beq_eq_false_iff_ne]; omega
    have hx1 := HX1.out h1
    rw [← show b1 = rd rest 1 from HB1E.out] at hx1
    subst h255
    by_cases hz : b1 = 0
    ·subst hz
     have hmz : m = 0 := by rw [HM2.out]; simp
     subst hmz
     go_wp2
     go_meet
     case rel => exact ⟨rfl, rfl⟩
    ·have hmz : m = b1 := by rw [HM2.out]; simp [hz]
     subst hmz
     go_wp2
     go_meet
     case rel => exact ⟨by first | rfl | (congr 1; omega), rfl⟩
   ·have hmz : m = 0 := by rw [HM2.out]; simp [h255]
    subst hmz
    have z2 : (b0 == 255) = false := by simp [h255]
    by_cases h1 : rest.length = 1
    ·have z1 : ((rest.length : Int) == 1) = true := by simp [h1]
     clear h1
     go_wp2
     go_meet
     case rel => exact ⟨rfl, rfl⟩
    ·have z1 : ((rest.length : Int) == 1) = false := by rw [beq_eq_false_iff_ne]; omega
     go_wp2
     go_meet
     case rel => exact ⟨rfl, rfl⟩
  case rest =>
   obtain ⟨rfl, rfl⟩ := hcut
   by_cases h254 : m = 254
   ·have hRe : R = (true, 0, 0, at_ + 2, l) := by rw [HR3.out, if_pos h254]
    subst hRe
    subst h254
    have fg1 : wc.frozen? ⟨g, 1, none⟩ = false := by obtain ⟨_, v, h2, _⟩ := HSG.out; exact blk_frozen h2 1
    go_wp2
    have hsg2 := HSG.out.at_ hg hqg (at_ + 2)
    have hr2 := blk_far HR2.out (p := ⟨g, 1, none⟩) (fun e => hgr e.symm) (.int .i64 ((at_ + 2 : Nat) : Int))
    obtain ⟨e1_, e2_⟩ := SegK.fin hsg2 hr2 hgr hqr hgw (.int .i64 0) (.int .i64 0)
    refine bodyPost_ret (results_list (rs := [.tmp 2, .cell 3 65]) rfl (by simp) (.tmp (.cell gr 65 #[.int .i64 0, .int .i64 0] (0, 0) _ rfl (by exact e2_) Try.underlying65 rfl (by kernel_rfl) .nil))) rfl ?_
    exact ⟨rfl, by first | exact e1_.drew | exact e1_⟩
   ·have hz254 : (m == 254) = false := by simp [h254]
    obtain ⟨_, v2, hk2, hs2, _⟩ := HSG.out
    obtain ⟨Al2, cl2, e2⟩ := Kd.S_slice hs2
    subst e2
    have j2 := blk_cell hk2 2
    simp at j2
    have HSR := Kd.S_reads' hs2
    have HSC := Aside0.mk HSR.2.2
    have HSL := Aside0.mk HSR.2.1
    have HK2 := Aside0.mk hk2
    have HS2 := Aside0.mk hs2
    have HMR := Aside0.mk (mayRun_val l hl)
    have HMS := Aside0.mk (mayRest_val l hl)
    have HIR := Aside0.mk (isRest_val m)
    clear hk2 hs2 HSR
    have hR4 : R = if badM m l then (false, 4, (at_ : Int), at_, l) else if l.length = 300 then (false, 6, (at_ : Int), at_, l)
      else if m = 0 then (if 20000 < (un rest).1.length then (false, 5, (at_ : Int), at_, l) else (false, 0, 0, at_ + (un rest).2, l ++ [⟨0, (un rest).1⟩]))
      else if isRest m then (false, 0, 0, at_ + 2, l ++ [⟨m, []⟩]) else if rest.length < 4 then (false, 3, (b.length : Int), at_, l) else if 20000 < lenM rest then (false, 5, (at_ : Int), at_, l)
      else if (rest.length : Int) < 4 + lenM rest then (false, 3, (b.length : Int), at_, l) else (false, 0, 0, at_ + 4 + (lenM rest).toNat, l ++ [⟨m, (rest.drop 4).take (lenM rest).toNat⟩]) := by
     rw [HR3.out, if_neg h254]
    have HR4 := Aside0.mk hR4
    clear hR4 HR3
    go_upto_block 1 with (fail)
    go_cut [] from 11 (fun wx => Aside0 (SegK w0 wx g gq A c b at_ l) ∧ Aside0 (wx.heap[gr]? = some (.cells #[.int .i64 0, .int .i64 0] 65 (0, 0))) ∧ Aside0 (badM m l = false) ∧ l.length ≠ 300)
    case first =>
     by_cases h247 : 247 < m
     ·have hbad : badM m l = true := by simp [badM, h247]
      have hRe : R = (false, 4, (at_ : Int), at_, l) := by rw [HR4.out, if_pos hbad]
      subst hRe
      clear hbad
      go_wp2
      obtain ⟨e1_, e2_⟩ := SegK.fin HSG.out HR2.out hgr hqr hgw (.int .i64 4) (.int .i64 at_)
      refine bodyPost_ret (results_list (rs := [.tmp 2, .cell 3 65]) rfl (by simp) (.tmp (.cell gr 65 #[.int .i64 4, .int .i64 at_] (0, 0) _ rfl (by exact e2_) Try.underlying65 rfl (by kernel_rfl) .nil))) rfl ?_
      exact ⟨rfl, by first | exact e1_.drew | exact e1_⟩
     ·by_cases hm0 : m = 0
      ·subst hm0
       cases hmr : mayRunM l with
       | false =>
        have hbad : badM 0 l = true := by simp [badM, hmr]
        have hRe : R = (false, 4, (at_ : Int), at_, l) := by rw [HR4.out, if_pos hbad]
        subst hRe
        rw [hmr] at HMR
        clear hbad hmr
        go_wp2_with fail
        refine (impl_mayRun.calls Al2 cl2 l false _ (Kd.C_drewN HSC.out 0) HSL.out HMR.out).mono ?_
        rintro e_ w_ ⟨rfl, ⟨n1, rfl⟩⟩
        go_wp2
        obtain ⟨e1_, e2_⟩ := SegK.fin (HSG.out.drewN (n1)) (show (wc.drewN (n1)).heap[gr]? = some (.cells #[.int .i64 0, .int .i64 0] 65 (0, 0)) from HR2.out) hgr hqr hgw (.int .i64 4) (.int .i64 at_)
        refine bodyPost_ret (results_list (rs := [.tmp 2, .cell 3 65]) rfl (by simp) (.tmp (.cell gr 65 #[.int .i64 4, .int .i64 at_] (0, 0) _ rfl (by exact e2_) Try.underlying65 rfl (by kernel_rfl) .nil))) rfl ?_
        exact ⟨rfl, by first | exact e1_.drew | exact e1_⟩
       | true =>
        have hbad : badM 0 l = false := by simp [badM, hmr, isRest]
        have HBAD := Aside0.mk hbad
        have hir0 : isRest 0 = false := by decide
        rw [hmr] at HMR
        rw [hir0] at HIR
        clear hbad hmr hir0
        go_wp2_with fail
        refine (impl_mayRun.calls Al2 cl2 l true _ (Kd.C_drewN HSC.out 0) HSL.out HMR.out).mono ?_
        rintro e_ w_ ⟨rfl, ⟨n1, rfl⟩⟩
        go_wp2_with fail
        refine (impl_isRestart.calls 0 false _ HIR.out).mono ?_
        rintro e_ w_ ⟨rfl, ⟨n2, rfl⟩⟩
        by_cases h300 : l.length = 300
        ·have hRe : R = (false, 6, (at_ : Int), at_, l) := by rw [HR4.out, HBAD.out, if_neg (by decide), if_pos h300]
         subst hRe
         have h3b : ((l.length : Int) == 300) = true := by rw [beq_iff_eq]; omega
         clear h300
         go_wp2
         obtain ⟨e1_, e2_⟩ := SegK.fin (HSG.out.drewN (n1 + n2)) (show (wc.drewN (n1 + n2)).heap[gr]? = some (.cells #[.int .i64 0, .int .i64 0] 65 (0, 0)) from HR2.out) hgr hqr hgw (.int .i64 6) (.int .i64 at_)
         refine bodyPost_ret (results_list (rs := [.tmp 2, .cell 3 65]) rfl (by simp) (.tmp (.cell gr 65 #[.int .i64 6, .int .i64 at_] (0, 0) _ rfl (by exact e2_) Try.underlying65 rfl (by kernel_rfl) .nil))) rfl ?_
         exact ⟨rfl, by first | exact e1_.drew | exact e1_⟩
        ·have h3b : ((l.length : Int) == 300) = false := by rw [beq_eq_false_iff_ne]; omega
         go_wp2
         go_meet
         case rel => exact ⟨⟨HSG.out.drewN _⟩, ⟨HR2.out⟩, HBAD, h300⟩
      ·have hm0b : (m == 0) = false := by simp [hm0]
       cases hir : isRest m with
       | false =>
        have hbad : badM m l = false := by simp [badM, h247, hm0, hir]
        have HBAD := Aside0.mk hbad
        rw [hir] at HIR
        clear hbad hir
        go_wp2_with fail
        refine (impl_isRestart.calls m false _ HIR.out).mono ?_
        rintro e_ w_ ⟨rfl, ⟨n2, rfl⟩⟩
        by_cases h300 : l.length = 300
        ·have hRe : R = (false, 6, (at_ : Int), at_, l) := by rw [HR4.out, HBAD.out, if_neg (by decide), if_pos h300]
         subst hRe
         have h3b : ((l.length : Int) == 300) = true := by rw [beq_iff_eq]; omega
         clear h300
         go_wp2
         obtain ⟨e1_, e2_⟩ := SegK.fin (HSG.out.drewN (n2)) (show (wc.drewN (n2)).heap[gr]? = some (.cells #[.int .i64 0, .int .i64 0] 65 (0, 0)) from HR2.out) hgr hqr hgw (.int .i64 6) (.int .i64 at_)
         refine bodyPost_ret (results_list (rs := [.tmp 2, .cell 3 65]) rfl (by simp) (.tmp (.cell gr 65 #[.int .i64 6, .int .i64 at_] (0, 0) _ rfl (by exact e2_) Try.underlying65 rfl (by kernel_rfl) .nil))) rfl ?_
         exact ⟨rfl, by first | exact e1_.drew | exact e1_⟩
        ·have h3b : ((l.length : Int) == 300) = false := by rw [beq_eq_false_iff_ne]; omega
         go_wp2
         go_meet
         case rel => exact ⟨⟨HSG.out.drewN _⟩, ⟨HR2.out⟩, HBAD, h300⟩
       | true =>
        cases hmr : mayRestM l with
        | false =>
         have hbad : badM m l = true := by simp [badM, hir, hmr]
         have hRe : R = (false, 4, (at_ : Int), at_, l) := by rw [HR4.out, if_pos hbad]
         subst hRe
         rw [hir] at HIR
         rw [hmr] at HMS
         clear hbad hir hmr
         go_wp2_with fail
         refine (impl_isRestart.calls m true _ HIR.out).mono ?_
         rintro e_ w_ ⟨rfl, ⟨n2, rfl⟩⟩
         go_wp2_with fail
         refine (impl_mayRestart.calls Al2 cl2 l false _ (Kd.C_drewN HSC.out _) HSL.out HMS.out).mono ?_
         rintro e_ w_ ⟨rfl, ⟨n3, rfl⟩⟩
         go_wp2
         obtain ⟨e1_, e2_⟩ := SegK.fin (HSG.out.drewN (n2 + n3)) (show (wc.drewN (n2 + n3)).heap[gr]? = some (.cells #[.int .i64 0, .int .i64 0] 65 (0, 0)) from HR2.out) hgr hqr hgw (.int .i64 4) (.int .i64 at_)
         refine bodyPost_ret (results_list (rs := [.tmp 2, .cell 3 65]) rfl (by simp) (.tmp (.cell gr 65 #[.int .i64 4, .int .i64 at_] (0, 0) _ rfl (by exact e2_) Try.underlying65 rfl (by kernel_rfl) .nil))) rfl ?_
         exact ⟨rfl, by first | exact e1_.drew | exact e1_⟩
        | true =>
         have hbad : badM m l = false := by simp [badM, h247, hm0, hmr]
         have HBAD := Aside0.mk hbad
         rw [hir] at HIR
         rw [hmr] at HMS
         clear hbad hir hmr
         go_wp2_with fail
         refine (impl_isRestart.calls m true _ HIR.out).mono ?_
         rintro e_ w_ ⟨rfl, ⟨n2, rfl⟩⟩
         go_wp2_with fail
         refine (impl_mayRestart.calls Al2 cl2 l true _ (Kd.C_drewN HSC.out _) HSL.out HMS.out).mono ?_
         rintro e_ w_ ⟨rfl, ⟨n3, rfl⟩⟩
         by_cases h300 : l.length = 300
         ·have hRe : R = (false, 6, (at_ : Int), at_, l) := by rw [HR4.out, HBAD.out, if_neg (by decide), if_pos h300]
          subst hRe
          have h3b : ((l.length : Int) == 300) = true := by rw [beq_iff_eq]; omega
          clear h300
          go_wp2
          obtain ⟨e1_, e2_⟩ := SegK.fin (HSG.out.drewN (n2 + n3)) (show (wc.drewN (n2 + n3)).heap[gr]? = some (.cells #[.int .i64 0, .int .i64 0] 65 (0, 0)) from HR2.out) hgr hqr hgw (.int .i64 6) (.int .i64 at_)
          refine bodyPost_ret (results_list (rs := [.tmp 2, .cell 3 65]) rfl (by simp) (.tmp (.cell gr 65 #[.int .i64 6, .int .i64 at_] (0, 0) _ rfl (by exact e2_) Try.underlying65 rfl (by kernel_rfl) .nil))) rfl ?_
          exact ⟨rfl, by first | exact e1_.drew | exact e1_⟩
         ·have h3b : ((l.length : Int) == 300) = false := by rw [beq_eq_false_iff_ne]; omega
          go_wp2
          go_meet
          case rel => exact ⟨⟨HSG.out.drewN _⟩, ⟨HR2.out⟩, HBAD, h300⟩
    case rest =>
     obtain ⟨HSG3, HRF, HBAD, h300⟩ := hcut
     exact absurd ⟨HEND.out, h254, HBAD.out, h300⟩ HE2.out
set_option maxRecDepth 100000 in
set_option maxHeartbeats 4000000 in
theorem next_calls_b1 (w0 W : World) (g gq : Nat) (A : Option Addr) (c : Nat) (b : List Int) (at_ : Nat) (l : List S131) (h : SegK w0 W g gq A c b at_ l) (hg : w0.heap.size ≤ g) (hqg : gq ≠ g) (hC : Kd.C (Kd.int .u8) w0 A b.length b) (hc : b.length ≤ c) (hat : at_ ≤ b.length) (hlen : b.length ≤ 60000) (hB : ∀ x ∈ b, 0 ≤ x ∧ x ≤ 255) (hl : l.length ≤ 300) (hE : (¬ (b.drop at_ = [] ∨ b.drop at_ = [255]) ∧ markM (b.drop at_) ≠ 254 ∧ badM (markM (b.drop at_)) l = false ∧ l.length ≠ 300)) (hK : markM (b.drop at_) = 0) :
  Calls Try.prog 133 #[.pointer (some ⟨g, 0, none⟩)] W fun e w' => e = .returned (.tuple #[.bool (nxt b at_ l).1, .agg #[.int .i64 (nxt b at_ l).2.1, .int .i64 (nxt b at_ l).2.2.1]]) ∧ SegK w0 w' g gq A c b (nxt b at_ l).2.2.2.1 (nxt b at_ l).2.2.2.2 := by
 obtain ⟨hbel, v, hk, hS, hq⟩ := h
 have HQ := Aside0.mk hq
 have k0 := blk_cell hk 0
 have k1 := blk_cell hk 1
 have k2 := blk_cell hk 2
 simp at k0 k1 k2
 obtain ⟨Al, cl, el⟩ := Kd.S_slice hS
 subst el
 have HBEL := Aside0.mk hbel
 have HK := Aside0.mk hk
 have HS := Aside0.mk hS
 have HCB := Aside0.mk hC
 have HCC := Aside0.mk hc
 have HBB := Aside0.mk hB
 have hatc : at_ ≤ c := by omega
 have HE := Aside0.mk hE
 have HKK := Aside0.mk hK
 clear hE hK
 clear hbel hk hS hC hB hq
 obtain ⟨R, hR⟩ : ∃ R, R = nxt b at_ l := ⟨_, rfl⟩
 rw [← hR]
 have HRR := Aside0.mk hR
 clear hR
 go_enter Try.func133, Try.ntmps133
 go_upto_region 1 with (fail)
 have hr := blk_new W (Obj.cells #[.int .i64 0, .int .i64 0] 65)
 have HK1 := Aside0.mk (blk_alloc HK.out (Obj.cells #[.int .i64 0, .int .i64 0] 65))
 have HS1 := Aside0.mk (Kd.S_alloc HS.out (Obj.cells #[.int .i64 0, .int .i64 0] 65))
 have HB1 := Aside0.mk (below_alloc HBEL.out (Obj.cells #[.int .i64 0, .int .i64 0] 65))
 have hgr : g ≠ W.heap.size := by have := blk_lt HK.out; omega
 have hqr : gq ≠ W.heap.size := by have := blk_lt HQ.out; omega
 have HQ1 := Aside0.mk (blk_alloc HQ.out (Obj.cells #[.int .i64 0, .int .i64 0] 65))
 have hgw : w0.heap.size ≤ W.heap.size := HBEL.out.size
 generalize W.heap.size = gr at hr hgr hqr hgw ⊢
 generalize W.alloc (Obj.cells #[.int .i64 0, .int .i64 0] 65) = W1 at hr HK1 HS1 HB1 HQ1 ⊢
 clear k0 k1 k2 HK HS HBEL HQ
 have k0 := blk_cell HK1.out 0
 have k1 := blk_cell HK1.out 1
 have k2 := blk_cell HK1.out 2
 simp at k0 k1 k2
 have HR := Aside0.mk hr
 clear hr
 go_wp2
 go_quiet (fail)
 go_upto_block 0 with (fail)
 obtain ⟨rest, hrest⟩ : ∃ rest, rest = b.drop at_ := ⟨_, rfl⟩
 have hrl : b.length - at_ = rest.length := by rw [hrest, List.length_drop]
 have hrc : Kd.C (Kd.int .u8) w0 (if c = at_ then A else A.map (·.add at_)) rest.length rest := by
  have h9 := Kd.C_drop HCB.out hat HCC.out
  rw [show (Kd.int IntKind.u8).sz = 1 from rfl] at h9
  simp only [Nat.mul_one] at h9
  rw [hrest]
  exact h9
 rw [hrl]
 generalize (if c = at_ then A else Option.map (fun x => x.add at_) A) = Ar at hrc ⊢
 have hrcc : rest.length ≤ c - at_ := by rw [← hrl]; omega
 have HRC := Aside0.mk hrc
 have HRCC := Aside0.mk hrcc
 have HREST := Aside0.mk hrest
 have HRL := Aside0.mk hrl
 have HRB := Aside0.mk (show ∀ x ∈ rest, 0 ≤ x ∧ x ≤ 255 from fun x hx => HBB.out x (by rw [hrest] at hx; exact List.mem_of_mem_drop hx))
 have HSG : Aside0 (SegK w0 (W1.drewN nq) g gq A c b at_ l) := ⟨pw_below_drewN HB1.out nq, _, HK1.out, Kd.S_drewN HS1.out nq, HQ1.out⟩
 have HR2 : Aside0 ((W1.drewN nq).heap[gr]? = some (.cells #[.int .i64 0, .int .i64 0] 65 (0, 0))) := ⟨HR.out⟩
 have HRC1 := Aside0.mk (Kd.C_below hrc HSG.out.1)
 generalize hcr : c - at_ = cr at HRCC ⊢
 generalize W1.drewN nq = W2 at HSG HR2 HRC1 ⊢
 clear hrest hrl hrc hrcc HK1 HS1 HB1 HQ1 HR k0 k1 k2 hcr
 have j0 : W2.cell? ⟨g, 0, none⟩ = some (.slice A b.length c) := by obtain ⟨_, v, h2, _⟩ := HSG.out; exact blk_cell h2 0
 have j1 : W2.cell? ⟨g, 1, none⟩ = some (.int .i64 (at_ : Int)) := by obtain ⟨_, v, h2, _⟩ := HSG.out; exact blk_cell h2 1
 have r0 : W2.cell? ⟨gr, 0, none⟩ = some (.int .i64 0) := blk_cell HR2.out 0
 have r1 : W2.cell? ⟨gr, 1, none⟩ = some (.int .i64 0) := blk_cell HR2.out 1
 have f0 : W2.frozen? ⟨gr, 0, none⟩ = false := blk_frozen HR2.out 0
 have f1 : W2.frozen? ⟨gr, 1, none⟩ = false := blk_frozen HR2.out 1
 by_cases hend : rest = [] ∨ rest = [255]
 ·exact absurd hend (by rw [HREST.out]; exact HE.out.1)
 ·have hne : rest ≠ [] := fun e => hend (.inl e)
  have hlr : 0 < rest.length := List.length_pos_iff.2 hne
  obtain ⟨ad, q1, hx0⟩ := Kd.at_int HRC1.out 0 (by omega) (by omega)
  cases q1
  rw [show (0 : Int).toNat = 0 from rfl, Addr.add_zero'] at hx0
  have hx1 : 1 < rest.length → W2.cell? ⟨ad.block, ad.off + 1, none⟩ = some (.int .u8 (rd rest 1)) := fun h => by
   obtain ⟨ad', q2, hx⟩ := Kd.at_int HRC1.out 1 (by omega) (by omega)
   cases q2
   have e := add_field ad 0 1 (by omega)
   rw [Nat.zero_add, Addr.add_zero'] at e
   rw [show (1 : Int).toNat = 1 from rfl, e] at hx
   exact hx
  have HX1 := Aside0.mk hx1
  obtain ⟨b0, hb0⟩ : ∃ b0, b0 = rd rest 0 := ⟨_, rfl⟩
  obtain ⟨b1, hb1⟩ : ∃ b1, b1 = rd rest 1 := ⟨_, rfl⟩
  obtain ⟨m, hm⟩ : ∃ m, m = markM rest := ⟨_, rfl⟩
  have hm2 : m = if b0 ≠ 255 ∨ b1 = 0 then 0 else b1 := by rw [hm, markM, hb0, hb1]
  have hb0r : 0 ≤ b0 ∧ b0 ≤ 255 := by
   rw [hb0]; cases rest with
   | nil => simp at hlr
   | cons x t => exact HRB.out x List.mem_cons_self
  have hb1r : 0 ≤ b1 ∧ b1 ≤ 255 := by
   rw [hb1]; match rest with
   | [] => simp [rd]
   | [x] => simp [rd]
   | x :: y :: t => exact HRB.out y (by simp)
  have hone : rest.length = 1 → b0 ≠ 255 := by
   intro h e
   obtain ⟨x, rfl⟩ := List.length_eq_one_iff.1 h
   exact hend (.inr (by rw [← e, hb0]; rfl))
  rw [← hb0] at hx0
  have hR3 : R = if m = 254 then (true, 0, 0, at_ + 2, l) else if badM m l then (false, 4, (at_ : Int), at_, l) else if l.length = 300 then (false, 6, (at_ : Int), at_, l)
    else if m = 0 then (if 20000 < (un rest).1.length then (false, 5, (at_ : Int), at_, l) else (false, 0, 0, at_ + (un rest).2, l ++ [⟨0, (un rest).1⟩]))
    else if isRest m then (false, 0, 0, at_ + 2, l ++ [⟨m, []⟩]) else if rest.length < 4 then (false, 3, (b.length : Int), at_, l) else if 20000 < lenM rest then (false, 5, (at_ : Int), at_, l)
    else if (rest.length : Int) < 4 + lenM rest then (false, 3, (b.length : Int), at_, l) else (false, 0, 0, at_ + 4 + (lenM rest).toNat, l ++ [⟨m, (rest.drop 4).take (lenM rest).toNat⟩]) := by
   rw [HRR.out, nxt, ← HREST.out, if_neg hend, ← hm]
  have HR3 := Aside0.mk hR3
  have HB1E := Aside0.mk hb1
  have hmr : 0 ≤ m ∧ m ≤ 255 := by rw [hm2]; split <;> omega
  have HE2 := Aside0.mk (show (¬ (rest = [] ∨ rest = [255]) ∧ m ≠ 254 ∧ badM m l = false ∧ l.length ≠ 300) from by rw [hm, HREST.out]; exact HE.out)
  have HKM := Aside0.mk (show m = 0 from by rw [hm, HREST.out]; exact HKK.out)
  have HM2 := Aside0.mk hm2
  have HMM := Aside0.mk hm
  have HEND := Aside0.mk hend
  clear hx1 hb0 hb1 hm hm2 hR3 hend hne HRR
  go_cut [6] from 11 (fun v6 wx => v6 = .int .i64 m ∧ wx = W2)
  case first =>
   have z0 : ((rest.length : Int) == 0) = false := by rw [beq_eq_false_iff_ne]; omega
   by_cases h255 : b0 = 255
   ·have h1 : 1 < rest.length := by
     rcases Nat.lt_or_ge 1 rest.length with h | h
     ·exact h
     ·exact absurd h255 (hone (by omega))
    have z1 : ((rest.length : Int) == 1) = false := by rw [beq_eq_false_iff_ne]; omega
    have hx1 := HX1.out h1
    rw [← show b1 = rd rest 1 from HB1E.out] at hx1
    subst h255
    by_cases hz : b1 = 0
    ·subst hz
     have hmz : m = 0 := by rw [HM2.out]; simp
     subst hmz
     go_wp2
     go_meet
     case rel => exact ⟨rfl, rfl⟩
    ·have hmz : m = b1 := by rw [HM2.out]; simp [hz]
     subst hmz
     go_wp2
     go_meet
     case rel => exact ⟨by first | rfl | (congr 1; omega), rfl⟩
   ·have hmz : m = 0 := by rw [HM2.out]; simp [h255]
    subst hmz
    have z2 : (b0 == 255) = false := by simp [h255]
    by_cases h1 : rest.length = 1
    ·have z1 : ((rest.length : Int) == 1) = true := by simp [h1]
     clear h1
     go_wp2
     go_meet
     case rel => exact ⟨rfl, rfl⟩
    ·have z1 : ((rest.length : Int) == 1) = false := by rw [beq_eq_false_iff_ne]; omega
     go_wp2
     go_meet
     case rel => exact ⟨rfl, rfl⟩
  case rest =>
   obtain ⟨rfl, rfl⟩ := hcut
   by_cases h254 : m = 254
   ·exact absurd h254 HE2.out.2.1
   ·have hz254 : (m == 254) = false := by simp [h254]
    obtain ⟨_, v2, hk2, hs2, _⟩ := HSG.out
    obtain ⟨Al2, cl2, e2⟩ := Kd.S_slice hs2
    subst e2
    have j2 := blk_cell hk2 2
    simp at j2
    have HSR := Kd.S_reads' hs2
    have HSC := Aside0.mk HSR.2.2
    have HSL := Aside0.mk HSR.2.1
    have HK2 := Aside0.mk hk2
    have HS2 := Aside0.mk hs2
    have HMR := Aside0.mk (mayRun_val l hl)
    have HMS := Aside0.mk (mayRest_val l hl)
    have HIR := Aside0.mk (isRest_val m)
    clear hk2 hs2 HSR
    have hR4 : R = if badM m l then (false, 4, (at_ : Int), at_, l) else if l.length = 300 then (false, 6, (at_ : Int), at_, l)
      else if m = 0 then (if 20000 < (un rest).1.length then (false, 5, (at_ : Int), at_, l) else (false, 0, 0, at_ + (un rest).2, l ++ [⟨0, (un rest).1⟩]))
      else if isRest m then (false, 0, 0, at_ + 2, l ++ [⟨m, []⟩]) else if rest.length < 4 then (false, 3, (b.length : Int), at_, l) else if 20000 < lenM rest then (false, 5, (at_ : Int), at_, l)
      else if (rest.length : Int) < 4 + lenM rest then (false, 3, (b.length : Int), at_, l) else (false, 0, 0, at_ + 4 + (lenM rest).toNat, l ++ [⟨m, (rest.drop 4).take (lenM rest).toNat⟩]) := by
     rw [HR3.out, if_neg h254]
    have HR4 := Aside0.mk hR4
    clear hR4 HR3
    go_upto_block 1 with (fail)
    go_cut [] from 11 (fun wx => Aside0 (SegK w0 wx g gq A c b at_ l) ∧ Aside0 (wx.heap[gr]? = some (.cells #[.int .i64 0, .int .i64 0] 65 (0, 0))) ∧ Aside0 (badM m l = false) ∧ l.length ≠ 300)
    case first =>
     by_cases h247 : 247 < m
     ·exact absurd HE2.out.2.2.1 (by simp [badM, h247])
     ·by_cases hm0 : m = 0
      ·subst hm0
       cases hmr : mayRunM l with
       | false =>
        exact absurd HE2.out.2.2.1 (by simp [badM, hmr])
       | true =>
        have hbad : badM 0 l = false := by simp [badM, hmr, isRest]
        have HBAD := Aside0.mk hbad
        have hir0 : isRest 0 = false := by decide
        rw [hmr] at HMR
        rw [hir0] at HIR
        clear hbad hmr hir0
        go_wp2_with fail
        refine (impl_mayRun.calls Al2 cl2 l true _ (Kd.C_drewN HSC.out 0) HSL.out HMR.out).mono ?_
        rintro e_ w_ ⟨rfl, ⟨n1, rfl⟩⟩
        go_wp2_with fail
        refine (impl_isRestart.calls 0 false _ HIR.out).mono ?_
        rintro e_ w_ ⟨rfl, ⟨n2, rfl⟩⟩
        by_cases h300 : l.length = 300
        ·exact absurd h300 HE2.out.2.2.2
        ·have h3b : ((l.length : Int) == 300) = false := by rw [beq_eq_false_iff_ne]; omega
         go_wp2
         go_meet
         case rel => exact ⟨⟨HSG.out.drewN _⟩, ⟨HR2.out⟩, HBAD, h300⟩
      ·have hm0b : (m == 0) = false := by simp [hm0]
       cases hir : isRest m with
       | false =>
        have hbad : badM m l = false := by simp [badM, h247, hm0, hir]
        have HBAD := Aside0.mk hbad
        rw [hir] at HIR
        clear hbad hir
        go_wp2_with fail
        refine (impl_isRestart.calls m false _ HIR.out).mono ?_
        rintro e_ w_ ⟨rfl, ⟨n2, rfl⟩⟩
        by_cases h300 : l.length = 300
        ·exact absurd h300 HE2.out.2.2.2
        ·have h3b : ((l.length : Int) == 300) = false := by rw [beq_eq_false_iff_ne]; omega
         go_wp2
         go_meet
         case rel => exact ⟨⟨HSG.out.drewN _⟩, ⟨HR2.out⟩, HBAD, h300⟩
       | true =>
        cases hmr : mayRestM l with
        | false =>
         exact absurd HE2.out.2.2.1 (by simp [badM, hir, hmr])
        | true =>
         have hbad : badM m l = false := by simp [badM, h247, hm0, hmr]
         have HBAD := Aside0.mk hbad
         rw [hir] at HIR
         rw [hmr] at HMS
         clear hbad hir hmr
         go_wp2_with fail
         refine (impl_isRestart.calls m true _ HIR.out).mono ?_
         rintro e_ w_ ⟨rfl, ⟨n2, rfl⟩⟩
         go_wp2_with fail
         refine (impl_mayRestart.calls Al2 cl2 l true _ (Kd.C_drewN HSC.out _) HSL.out HMS.out).mono ?_
         rintro e_ w_ ⟨rfl, ⟨n3, rfl⟩⟩
         by_cases h300 : l.length = 300
         ·exact absurd h300 HE2.out.2.2.2
         ·have h3b : ((l.length : Int) == 300) = false := by rw [beq_eq_false_iff_ne]; omega
          go_wp2
          go_meet
          case rel => exact ⟨⟨HSG.out.drewN _⟩, ⟨HR2.out⟩, HBAD, h300⟩
    case rest =>
     obtain ⟨HSG3, HRF, HBAD, h300⟩ := hcut
     have hR5 : R = if m = 0 then (if 20000 < (un rest).1.length then (false, 5, (at_ : Int), at_, l) else (false, 0, 0, at_ + (un rest).2, l ++ [⟨0, (un rest).1⟩]))
       else if isRest m then (false, 0, 0, at_ + 2, l ++ [⟨m, []⟩]) else if rest.length < 4 then (false, 3, (b.length : Int), at_, l) else if 20000 < lenM rest then (false, 5, (at_ : Int), at_, l)
       else if (rest.length : Int) < 4 + lenM rest then (false, 3, (b.length : Int), at_, l) else (false, 0, 0, at_ + 4 + (lenM rest).toNat, l ++ [⟨m, (rest.drop 4).take (lenM rest).toNat⟩]) := by
      rw [HR4.out, HBAD.out, if_neg (by decide), if_neg h300]
     have HR5 := Aside0.mk hR5
     clear hR5 HR4 HSG HR2 HRC1 j0 j1 r0 r1 f0 f1 hx0 j2 HSC HSL HK2 HS2 HMR HMS hz254
     go_upto_block 2 with (fail)
     obtain ⟨hb3, v3, hk3, hs3, hq3⟩ := HSG3.out
     obtain ⟨Al3, cl3, e3⟩ := Kd.S_slice hs3
     subst e3
     have kb := blk_new wc (Obj.cells #[.int .i64 m, .slice none 0 0] 131)
     have KG := Aside0.mk (blk_alloc hk3 (Obj.cells #[.int .i64 m, .slice none 0 0] 131))
     have KQ := Aside0.mk (blk_alloc hq3 (Obj.cells #[.int .i64 m, .slice none 0 0] 131))
     have hsq : gq < wc.heap.size := blk_lt hq3
     have KR := Aside0.mk (blk_alloc HRF.out (Obj.cells #[.int .i64 m, .slice none 0 0] 131))
     have HB6 := Aside0.mk (below_alloc hb3 (Obj.cells #[.int .i64 m, .slice none 0 0] 131))
     have HS6 := Aside0.mk (Kd.S_mono (ok' := fun k => k < wc.heap.size) (Kd.S_alloc (Kd.S_bound hs3) (Obj.cells #[.int .i64 m, .slice none 0 0] 131)) (fun k hk => hk.2.2.1))
     have hsg : g < wc.heap.size := blk_lt hk3
     have hsr : gr < wc.heap.size := blk_lt HRF.out
     have hs0 : w0.heap.size ≤ wc.heap.size := hb3.size
     have hW6s : (wc.alloc (Obj.cells #[.int .i64 m, .slice none 0 0] 131)).heap.size = wc.heap.size + 1 := World.size_alloc ..
     have HRC6 := Aside0.mk (Kd.C_below HRC.out HB6.out)
     generalize wc.heap.size = gs at kb HS6 hsg hsr hsq hs0 hW6s ⊢
     generalize wc.alloc (Obj.cells #[.int .i64 m, .slice none 0 0] 131) = W6 at kb KG KR KQ HB6 HS6 hW6s HRC6 ⊢
     have KB := Aside0.mk kb
     have HW6 := Aside0.mk hW6s
     clear hb3 hk3 hs3 hq3 HSG3 HRF kb hW6s
     go_cut [] from 11 (fun wx => ∃ (n2 : Nat) (d : List Int) (vd : Value), Aside0 (R = (false, 0, 0, n2, l ++ [⟨m, d⟩])) ∧ Aside0 (wx.heap[gs]? = some (.cells #[.int .i64 m, vd] 131 (0, 0))) ∧ Aside0 (wx.heap[g]? = some (.cells #[.slice A b.length c, .int .i64 (n2 : Int), .slice Al3 l.length cl3] 136 (0, 0))) ∧ Aside0 (wx.heap[gr]? = some (.cells #[.int .i64 0, .int .i64 0] 65 (0, 0))) ∧ Aside0 (wx.heap[gq]? = some (.cells #[.int .i64 0, .int .i64 0] 65 (0, 0))) ∧
      Aside0 (Below w0.heap.size w0 wx) ∧ Aside0 (Kd.S k131 131 wx w0.heap.size (fun k => k < gs) (.slice Al3 l.length cl3) l) ∧ Aside0 (Kd.R (Kd.int .u8) 5 wx w0.heap.size (fun k => gs < k) vd d))
     case first =>
      have s0 := blk_cell KG.out 0
      have s1 := blk_cell KG.out 1
      simp at s0 s1
      have t0 := blk_cell KR.out 0
      have t1 := blk_cell KR.out 1
      simp at t0 t1
      have q0 := blk_frozen KR.out 0
      have q1 := blk_frozen KR.out 1
      have q2 := blk_frozen KG.out 1
      have q3 := blk_frozen KB.out 1
      have b1c := blk_cell KB.out 1
      simp at b1c
      by_cases hm0 : m = 0
      ·subst hm0
       obtain ⟨ku, hku⟩ := (un_impl rest (by have := HRL.out; omega)).rounds
       have HUN := Aside0.mk hku
       have hule := un_le rest
       have hul1 := un_len rest
       obtain ⟨us, hus⟩ : ∃ us, us = (un rest).2 := ⟨_, rfl⟩
       obtain ⟨dd, hdd⟩ : ∃ dd, dd = (un rest).1 := ⟨_, rfl⟩
       have hR6 : R = if 20000 < dd.length then (false, 5, (at_ : Int), at_, l) else (false, 0, 0, at_ + us, l ++ [⟨0, dd⟩]) := by rw [HR5.out, if_pos rfl, hus, hdd]
       rw [← hus, ← hdd] at HUN
       rw [← hus] at hule
       rw [← hdd] at hul1
       have HR6 := Aside0.mk hR6
       have hrl2 : rest.length ≤ 60000 := by have := HRL.out; omega
       clear hku hus hdd hR6
       go_wp2_with fail
       refine (impl_Unstuff.calls ku (some ad) cr rest dd (us : Int) _ HRC6.out HRCC.out HUN.out).mono ?_
       rintro e_ w2 ⟨vd, rfl, hd, hb2⟩
       obtain ⟨Ad, cd, ed⟩ := Kd.R_slice hd
       subst ed
       have HD := Aside0.mk (Kd.R_mono (ok' := fun k => gs < k) (Kd.R_lower (Kd.R_bound hd) (show w0.heap.size ≤ W6.heap.size by have := HW6.out; omega)) (fun k hk => by have h1 := hk.2.1; have h2 := HW6.out; omega))
       have KG2 := Aside0.mk (blk_below KG.out hb2)
       have KR2 := Aside0.mk (blk_below KR.out hb2)
       have KQ2 := Aside0.mk (blk_below KQ.out hb2)
       have KB2 := Aside0.mk (blk_below KB.out hb2)
       have HB7 := Aside0.mk (Below.trans HB6.out (hb2.mono HB6.out.size))
       have HS7 := Aside0.mk (Kd.S_below HS6.out hb2)
       clear hd hb2 s0 s1 t0 t1 q0 q1 q2 q3 b1c
       have t0 := blk_cell KR2.out 0
       have t1 := blk_cell KR2.out 1
       simp at t0 t1
       have s1 := blk_cell KG2.out 1
       simp at s1
       have b1c := blk_cell KB2.out 1
       simp at b1c
       have q0 := blk_frozen KR2.out 0
       have q1 := blk_frozen KR2.out 1
       have q2 := blk_frozen KG2.out 1
       have q3 := blk_frozen KB2.out 1
       by_cases h20 : 20000 < dd.length
       ·have hRe : R = (false, 5, (at_ : Int), at_, l) := by rw [HR6.out, if_pos h20]
        subst hRe
        have hseg : SegK w0 w2 g gq A c b at_ l := ⟨HB7.out, _, KG2.out, Kd.S_mono HS7.out (fun _ _ => trivial), KQ2.out⟩
        go_wp2
        obtain ⟨e1_, e2_⟩ := SegK.fin hseg KR2.out hgr hqr hgw (.int .i64 5) (.int .i64 at_)
        refine bodyPost_ret (results_list (rs := [.tmp 2, .cell 3 65]) rfl (by simp) (.tmp (.cell gr 65 #[.int .i64 5, .int .i64 at_] (0, 0) _ rfl (by exact e2_) Try.underlying65 rfl (by kernel_rfl) .nil))) rfl ?_
        exact ⟨rfl, by first | exact e1_.drew | exact e1_⟩
       ·have hRe : R = (false, 0, 0, at_ + us, l ++ [⟨0, dd⟩]) := by rw [HR6.out, if_neg h20]
        have HRE := Aside0.mk hRe
        clear hRe
        have hnsg : ¬ gs = g := by omega
        have hngs : ¬ g = gs := by omega
        go_wp2
        go_meet
        case rel =>
         refine ⟨at_ + us, dd, .slice Ad dd.length cd, HRE, ⟨blk_far (blk_set KB2.out 1 _) (by show gs ≠ g; omega) _⟩, ⟨blk_set (blk_far KG2.out (by show g ≠ gs; omega) _) 1 _⟩, ⟨blk_far (blk_far KR2.out (by show gr ≠ gs; omega) _) (by show gr ≠ g; omega) _⟩, ⟨blk_far (blk_far KQ2.out (by show gq ≠ gs; omega) _) hqg _⟩, ⟨below_set (below_set HB7.out hs0) hg⟩, ⟨?_⟩, ⟨?_⟩⟩
         ·exact Kd.S_mono (Kd.S_far (p := ⟨g, 1, none⟩) (Kd.S_far (p := ⟨gs, 1, none⟩) (Kd.S_types HS7.out KG2.out (by decide)) (fun k hk => by show k ≠ gs; have := hk.1; omega) _) (fun k hk => hk.2) _) (fun k hk => hk.1)
         ·exact Kd.R_mono (Kd.R_far (p := ⟨g, 1, none⟩) (Kd.R_far (p := ⟨gs, 1, none⟩) (Kd.R_types HD.out KG2.out (by decide)) (fun k hk => by show k ≠ gs; have := hk.1; omega) _) (fun k hk => hk.2) _) (fun k hk => hk.1)
      ·exact absurd HKM.out hm0
     case rest =>
      obtain ⟨n2, d, vd, HRE, KB9, KG9, KR9, KQ9, HB9, HS9, HD9⟩ := hcut
      have hRe := HRE.out
      subst hRe
      obtain ⟨Ad, cd, ed⟩ := Kd.R_slice HD9.out
      subst ed
      have s0 := blk_cell KG9.out 0
      have s2 := blk_cell KG9.out 2
      simp at s0 s2
      have q4 := blk_frozen KG9.out 2
      have b0c := blk_cell KB9.out 0
      have b1c := blk_cell KB9.out 1
      simp at b0c b1c
      have t0 := blk_cell KR9.out 0
      have t1 := blk_cell KR9.out 1
      simp at t0 t1
      have s2a : ∀ o : Obj, (wc.alloc o).cell? ⟨g, 2, none⟩ = some (.slice Al3 l.length cl3) := fun o => (World.cell?_alloc_lt _ _ _ (blk_lt KG9.out)).trans s2
      have b0a : ∀ o : Obj, (wc.alloc o).cell? ⟨gs, 0, none⟩ = some (.int .i64 m) := fun o => (World.cell?_alloc_lt _ _ _ (blk_lt KB9.out)).trans b0c
      have b1a : ∀ o : Obj, (wc.alloc o).cell? ⟨gs, 1, none⟩ = some (.slice Ad d.length cd) := fun o => (World.cell?_alloc_lt _ _ _ (blk_lt KB9.out)).trans b1c
      have HOK := Aside0.mk (show ∀ k, gs < k → True ∧ some k ≠ (Value.slice Al3 l.length cl3).ownBlock from fun k hk => ⟨trivial, fun e => absurd (S_ok2 HS9.out k e.symm) (by omega)⟩)
      have HO9 := Aside0.mk (Kd.S_mono (ok' := fun k => True ∧ ¬ gs < k) HS9.out (fun k hk => ⟨trivial, by omega⟩))
      clear HRE
      go_upto_region 31 with (fail)
      go_region_law (refine Kd.S_append_step k131 (w0 := w0) (W := wc.drew) w0.heap.size (by rfl) (.tmp 195) (.tmp 197) 63 131 (.agg #[.int .i64 0, .slice none 0 0]) 32 (by rfl) Try.underlying63 info131 (by rfl) (by decide) (by decide) (.slice Al3 l.length cl3) l ⟨m, d⟩ [.int .i64 m, .slice Ad d.length cd] (fun _ => True) (fun k => gs < k) (by rfl) (by rfl) (k131_mkM _ _ _ _ (Kd.R_drew HD9.out)) HOK.out (fun _ _ => trivial) (Kd.S_drew HO9.out) (below_drew HB9.out) HB9.out.size (by omega) ?_; intro v8 w3 ho hb hg_ hat; obtain ⟨A8, c8, e8⟩ := Kd.S_slice ho; subst e8; have HO3 := Aside0.mk ho; have HB3 := Aside0.mk hb; have HG3 := Aside0.mk hg_; clear ho hb hg_ hat; have i1 := blk_grown (w := wc.drew) KG9.out HG3.out (Kd.S_ne (Kd.S_drew HS9.out) KG9.out (by decide)); have i2 := blk_grown (w := wc.drew) KR9.out HG3.out (Kd.S_ne (Kd.S_drew HS9.out) KR9.out (by decide)); have d3 := blk_cell i1 2; simp at d3; have e3 := blk_frozen i1 2; have I1 := Aside0.mk i1; have I2 := Aside0.mk i2; have I3 := Aside0.mk (blk_grown (w := wc.drew) KQ9.out HG3.out (Kd.S_ne (Kd.S_drew HS9.out) KQ9.out (by decide))); clear i1 i2)
      all_goals
       have hl1 : (l ++ [(⟨m, d⟩ : S131)]).length = l.length + 1 := by simp
       have ho3 := HO3.out
       rw [hl1] at ho3
       have hseg : SegK w0 (w3.setCell ⟨g, 2, none⟩ (.slice A8 (l.length + 1) c8)) g gq A c b n2 (l ++ [⟨m, d⟩]) := ⟨below_set HB3.out hg, _, blk_set I1.out 2 _, Kd.S_set ho3 I1.out (by decide) 2 _, blk_far I3.out hqg _⟩
       have hr9 := blk_far I2.out (p := ⟨g, 2, none⟩) (fun e => hgr e.symm) (.slice A8 (l.length + 1) c8)
       have HSEG := Aside0.mk hseg
       have HR9 := Aside0.mk hr9
       clear hseg hr9 ho3 hl1
       generalize w3.setCell ⟨g, 2, none⟩ (.slice A8 (l.length + 1) c8) = W9 at HSEG HR9 ⊢
       have u0 := blk_cell HR9.out 0
       have u1 := blk_cell HR9.out 1
       simp at u0 u1
       have u2 := blk_frozen HR9.out 0
       have u3 := blk_frozen HR9.out 1
       go_wp2
       obtain ⟨e1_, e2_⟩ := SegK.fin HSEG.out HR9.out hgr hqr hgw (.int .i64 0) (.int .i64 0)
       refine bodyPost_ret (results_list (rs := [.tmp 2, .cell 3 65]) rfl (by simp) (.tmp (.cell gr 65 #[.int .i64 0, .int .i64 0] (0, 0) _ rfl (by exact e2_) Try.underlying65 rfl (by kernel_rfl) .nil))) rfl ?_
       exact ⟨rfl, by first | exact e1_.drew | exact e1_⟩
set_option maxRecDepth 100000 in
set_option maxHeartbeats 4000000 in
theorem next_calls_b2 (w0 W : World) (g gq : Nat) (A : Option Addr) (c : Nat) (b : List Int) (at_ : Nat) (l : List S131) (h : SegK w0 W g gq A c b at_ l) (hg : w0.heap.size ≤ g) (hqg : gq ≠ g) (hC : Kd.C (Kd.int .u8) w0 A b.length b) (hc : b.length ≤ c) (hat : at_ ≤ b.length) (hlen : b.length ≤ 60000) (hB : ∀ x ∈ b, 0 ≤ x ∧ x ≤ 255) (hl : l.length ≤ 300) (hE : (¬ (b.drop at_ = [] ∨ b.drop at_ = [255]) ∧ markM (b.drop at_) ≠ 254 ∧ badM (markM (b.drop at_)) l = false ∧ l.length ≠ 300)) (hK : markM (b.drop at_) ≠ 0 ∧ isRest (markM (b.drop at_)) = true) :
  Calls Try.prog 133 #[.pointer (some ⟨g, 0, none⟩)] W fun e w' => e = .returned (.tuple #[.bool (nxt b at_ l).1, .agg #[.int .i64 (nxt b at_ l).2.1, .int .i64 (nxt b at_ l).2.2.1]]) ∧ SegK w0 w' g gq A c b (nxt b at_ l).2.2.2.1 (nxt b at_ l).2.2.2.2 := by
 obtain ⟨hbel, v, hk, hS, hq⟩ := h
 have HQ := Aside0.mk hq
 have k0 := blk_cell hk 0
 have k1 := blk_cell hk 1
 have k2 := blk_cell hk 2
 simp at k0 k1 k2
 obtain ⟨Al, cl, el⟩ := Kd.S_slice hS
 subst el
 have HBEL := Aside0.mk hbel
 have HK := Aside0.mk hk
 have HS := Aside0.mk hS
 have HCB := Aside0.mk hC
 have HCC := Aside0.mk hc
 have HBB := Aside0.mk hB
 have hatc : at_ ≤ c := by omega
 have HE := Aside0.mk hE
 have HKK := Aside0.mk hK
 clear hE hK
 clear hbel hk hS hC hB hq
 obtain ⟨R, hR⟩ : ∃ R, R = nxt b at_ l := ⟨_, rfl⟩
 rw [← hR]
 have HRR := Aside0.mk hR
 clear hR
 go_enter Try.func133, Try.ntmps133
 go_upto_region 1 with (fail)
 have hr := blk_new W (Obj.cells #[.int .i64 0, .int .i64 0] 65)
 have HK1 := Aside0.mk (blk_alloc HK.out (Obj.cells #[.int .i64 0, .int .i64 0] 65))
 have HS1 := Aside0.mk (Kd.S_alloc HS.out (Obj.cells #[.int .i64 0, .int .i64 0] 65))
 have HB1 := Aside0.mk (below_alloc HBEL.out (Obj.cells #[.int .i64 0, .int .i64 0] 65))
 have hgr : g ≠ W.heap.size := by have := blk_lt HK.out; omega
 have hqr : gq ≠ W.heap.size := by have := blk_lt HQ.out; omega
 have HQ1 := Aside0.mk (blk_alloc HQ.out (Obj.cells #[.int .i64 0, .int .i64 0] 65))
 have hgw : w0.heap.size ≤ W.heap.size := HBEL.out.size
 generalize W.heap.size = gr at hr hgr hqr hgw ⊢
 generalize W.alloc (Obj.cells #[.int .i64 0, .int .i64 0] 65) = W1 at hr HK1 HS1 HB1 HQ1 ⊢
 clear k0 k1 k2 HK HS HBEL HQ
 have k0 := blk_cell HK1.out 0
 have k1 := blk_cell HK1.out 1
 have k2 := blk_cell HK1.out 2
 simp at k0 k1 k2
 have HR := Aside0.mk hr
 clear hr
 go_wp2
 go_quiet (fail)
 go_upto_block 0 with (fail)
 obtain ⟨rest, hrest⟩ : ∃ rest, rest = b.drop at_ := ⟨_, rfl⟩
 have hrl : b.length - at_ = rest.length := by rw [hrest, List.length_drop]
 have hrc : Kd.C (Kd.int .u8) w0 (if c = at_ then A else A.map (·.add at_)) rest.length rest := by
  have h9 := Kd.C_drop HCB.out hat HCC.out
  rw [show (Kd.int IntKind.u8).sz = 1 from rfl] at h9
  simp only [Nat.mul_one] at h9
  rw [hrest]
  exact h9
 rw [hrl]
 generalize (if c = at_ then A else Option.map (fun x => x.add at_) A) = Ar at hrc ⊢
 have hrcc : rest.length ≤ c - at_ := by rw [← hrl]; omega
 have HRC := Aside0.mk hrc
 have HRCC := Aside0.mk hrcc
 have HREST := Aside0.mk hrest
 have HRL := Aside0.mk hrl
 have HRB := Aside0.mk (show ∀ x ∈ rest, 0 ≤ x ∧ x ≤ 255 from fun x hx => HBB.out x (by rw [hrest] at hx; exact List.mem_of_mem_drop hx))
 have HSG : Aside0 (SegK w0 (W1.drewN nq) g gq A c b at_ l) := ⟨pw_below_drewN HB1.out nq, _, HK1.out, Kd.S_drewN HS1.out nq, HQ1.out⟩
 have HR2 : Aside0 ((W1.drewN nq).heap[gr]? = some (.cells #[.int .i64 0, .int .i64 0] 65 (0, 0))) := ⟨HR.out⟩
 have HRC1 := Aside0.mk (Kd.C_below hrc HSG.out.1)
 generalize hcr : c - at_ = cr at HRCC ⊢
 generalize W1.drewN nq = W2 at HSG HR2 HRC1 ⊢
 clear hrest hrl hrc hrcc HK1 HS1 HB1 HQ1 HR k0 k1 k2 hcr
 have j0 : W2.cell? ⟨g, 0, none⟩ = some (.slice A b.length c) := by obtain ⟨_, v, h2, _⟩ := HSG.out; exact blk_cell h2 0
 have j1 : W2.cell? ⟨g, 1, none⟩ = some (.int .i64 (at_ : Int)) := by obtain ⟨_, v, h2, _⟩ := HSG.out; exact blk_cell h2 1
 have r0 : W2.cell? ⟨gr, 0, none⟩ = some (.int .i64 0) := blk_cell HR2.out 0
 have r1 : W2.cell? ⟨gr, 1, none⟩ = some (.int .i64 0) := blk_cell HR2.out 1
 have f0 : W2.frozen? ⟨gr, 0, none⟩ = false := blk_frozen HR2.out 0
 have f1 : W2.frozen? ⟨gr, 1, none⟩ = false := blk_frozen HR2.out 1
 by_cases hend : rest = [] ∨ rest = [255]
 ·exact absurd hend (by rw [HREST.out]; exact HE.out.1)
 ·have hne : rest ≠ [] := fun e => hend (.inl e)
  have hlr : 0 < rest.length := List.length_pos_iff.2 hne
  obtain ⟨ad, q1, hx0⟩ := Kd.at_int HRC1.out 0 (by omega) (by omega)
  cases q1
  rw [show (0 : Int).toNat = 0 from rfl, Addr.add_zero'] at hx0
  have hx1 : 1 < rest.length → W2.cell? ⟨ad.block, ad.off + 1, none⟩ = some (.int .u8 (rd rest 1)) := fun h => by
   obtain ⟨ad', q2, hx⟩ := Kd.at_int HRC1.out 1 (by omega) (by omega)
   cases q2
   have e := add_field ad 0 1 (by omega)
   rw [Nat.zero_add, Addr.add_zero'] at e
   rw [show (1 : Int).toNat = 1 from rfl, e] at hx
   exact hx
  have HX1 := Aside0.mk hx1
  obtain ⟨b0, hb0⟩ : ∃ b0, b0 = rd rest 0 := ⟨_, rfl⟩
  obtain ⟨b1, hb1⟩ : ∃ b1, b1 = rd rest 1 := ⟨_, rfl⟩
  obtain ⟨m, hm⟩ : ∃ m, m = markM rest := ⟨_, rfl⟩
  have hm2 : m = if b0 ≠ 255 ∨ b1 = 0 then 0 else b1 := by rw [hm, markM, hb0, hb1]
  have hb0r : 0 ≤ b0 ∧ b0 ≤ 255 := by
   rw [hb0]; cases rest with
   | nil => simp at hlr
   | cons x t => exact HRB.out x List.mem_cons_self
  have hb1r : 0 ≤ b1 ∧ b1 ≤ 255 := by
   rw [hb1]; match rest with
   | [] => simp [rd]
   | [x] => simp [rd]
   | x :: y :: t => exact HRB.out y (by simp)
  have hone : rest.length = 1 → b0 ≠ 255 := by
   intro h e
   obtain ⟨x, rfl⟩ := List.length_eq_one_iff.1 h
   exact hend (.inr (by rw [← e, hb0]; rfl))
  rw [← hb0] at hx0
  have hR3 : R = if m = 254 then (true, 0, 0, at_ + 2, l) else if badM m l then (false, 4, (at_ : Int), at_, l) else if l.length = 300 then (false, 6, (at_ : Int), at_, l)
    else if m = 0 then (if 20000 < (un rest).1.length then (false, 5, (at_ : Int), at_, l) else (false, 0, 0, at_ + (un rest).2, l ++ [⟨0, (un rest).1⟩]))
    else if isRest m then (false, 0, 0, at_ + 2, l ++ [⟨m, []⟩]) else if rest.length < 4 then (false, 3, (b.length : Int), at_, l) else if 20000 < lenM rest then (false, 5, (at_ : Int), at_, l)
    else if (rest.length : Int) < 4 + lenM rest then (false, 3, (b.length : Int), at_, l) else (false, 0, 0, at_ + 4 + (lenM rest).toNat, l ++ [⟨m, (rest.drop 4).take (lenM rest).toNat⟩]) := by
   rw [HRR.out, nxt, ← HREST.out, if_neg hend, ← hm]
  have HR3 := Aside0.mk hR3
  have HB1E := Aside0.mk hb1
  have hmr : 0 ≤ m ∧ m ≤ 255 := by rw [hm2]; split <;> omega
  have HE2 := Aside0.mk (show (¬ (rest = [] ∨ rest = [255]) ∧ m ≠ 254 ∧ badM m l = false ∧ l.length ≠ 300) from by rw [hm, HREST.out]; exact HE.out)
  have HKM := Aside0.mk (show m ≠ 0 ∧ isRest m = true from by rw [hm, HREST.out]; exact HKK.out)
  have HM2 := Aside0.mk hm2
  have HMM := Aside0.mk hm
  have HEND := Aside0.mk hend
  clear hx1 hb0 hb1 hm hm2 hR3 hend hne HRR
  go_cut [6] from 11 (fun v6 wx => v6 = .int .i64 m ∧ wx = W2)
  case first =>
   have z0 : ((rest.length : Int) == 0) = false := by rw [beq_eq_false_iff_ne]; omega
   by_cases h255 : b0 = 255
   ·have h1 : 1 < rest.length := by
     rcases Nat.lt_or_ge 1 rest.length with h | h
     ·exact h
     ·exact absurd h255 (hone (by omega))
    have z1 : ((rest.length : Int) == 1) = false := by rw [beq_eq_false_iff_ne]; omega
    have hx1 := HX1.out h1
    rw [← show b1 = rd rest 1 from HB1E.out] at hx1
    subst h255
    by_cases hz : b1 = 0
    ·subst hz
     have hmz : m = 0 := by rw [HM2.out]; simp
     subst hmz
     go_wp2
     go_meet
     case rel => exact ⟨rfl, rfl⟩
    ·have hmz : m = b1 := by rw [HM2.out]; simp [hz]
     subst hmz
     go_wp2
     go_meet
     case rel => exact ⟨by first | rfl | (congr 1; omega), rfl⟩
   ·have hmz : m = 0 := by rw [HM2.out]; simp [h255]
    subst hmz
    have z2 : (b0 == 255) = false := by simp [h255]
    by_cases h1 : rest.length = 1
    ·have z1 : ((rest.length : Int) == 1) = true := by simp [h1]
     clear h1
     go_wp2
     go_meet
     case rel => exact ⟨rfl, rfl⟩
    ·have z1 : ((rest.length : Int) == 1) = false := by rw [beq_eq_false_iff_ne]; omega
     go_wp2
     go_meet
     case rel => exact ⟨rfl, rfl⟩
  case rest =>
   obtain ⟨rfl, rfl⟩ := hcut
   by_cases h254 : m = 254
   ·exact absurd h254 HE2.out.2.1
   ·have hz254 : (m == 254) = false := by simp [h254]
    obtain ⟨_, v2, hk2, hs2, _⟩ := HSG.out
    obtain ⟨Al2, cl2, e2⟩ := Kd.S_slice hs2
    subst e2
    have j2 := blk_cell hk2 2
    simp at j2
    have HSR := Kd.S_reads' hs2
    have HSC := Aside0.mk HSR.2.2
    have HSL := Aside0.mk HSR.2.1
    have HK2 := Aside0.mk hk2
    have HS2 := Aside0.mk hs2
    have HMR := Aside0.mk (mayRun_val l hl)
    have HMS := Aside0.mk (mayRest_val l hl)
    have HIR := Aside0.mk (isRest_val m)
    clear hk2 hs2 HSR
    have hR4 : R = if badM m l then (false, 4, (at_ : Int), at_, l) else if l.length = 300 then (false, 6, (at_ : Int), at_, l)
      else if m = 0 then (if 20000 < (un rest).1.length then (false, 5, (at_ : Int), at_, l) else (false, 0, 0, at_ + (un rest).2, l ++ [⟨0, (un rest).1⟩]))
      else if isRest m then (false, 0, 0, at_ + 2, l ++ [⟨m, []⟩]) else if rest.length < 4 then (false, 3, (b.length : Int), at_, l) else if 20000 < lenM rest then (false, 5, (at_ : Int), at_, l)
      else if (rest.length : Int) < 4 + lenM rest then (false, 3, (b.length : Int), at_, l) else (false, 0, 0, at_ + 4 + (lenM rest).toNat, l ++ [⟨m, (rest.drop 4).take (lenM rest).toNat⟩]) := by
     rw [HR3.out, if_neg h254]
    have HR4 := Aside0.mk hR4
    clear hR4 HR3
    go_upto_block 1 with (fail)
    go_cut [] from 11 (fun wx => Aside0 (SegK w0 wx g gq A c b at_ l) ∧ Aside0 (wx.heap[gr]? = some (.cells #[.int .i64 0, .int .i64 0] 65 (0, 0))) ∧ Aside0 (badM m l = false) ∧ l.length ≠ 300)
    case first =>
     by_cases h247 : 247 < m
     ·exact absurd HE2.out.2.2.1 (by simp [badM, h247])
     ·by_cases hm0 : m = 0
      ·subst hm0
       cases hmr : mayRunM l with
       | false =>
        exact absurd HE2.out.2.2.1 (by simp [badM, hmr])
       | true =>
        have hbad : badM 0 l = false := by simp [badM, hmr, isRest]
        have HBAD := Aside0.mk hbad
        have hir0 : isRest 0 = false := by decide
        rw [hmr] at HMR
        rw [hir0] at HIR
        clear hbad hmr hir0
        go_wp2_with fail
        refine (impl_mayRun.calls Al2 cl2 l true _ (Kd.C_drewN HSC.out 0) HSL.out HMR.out).mono ?_
        rintro e_ w_ ⟨rfl, ⟨n1, rfl⟩⟩
        go_wp2_with fail
        refine (impl_isRestart.calls 0 false _ HIR.out).mono ?_
        rintro e_ w_ ⟨rfl, ⟨n2, rfl⟩⟩
        by_cases h300 : l.length = 300
        ·exact absurd h300 HE2.out.2.2.2
        ·have h3b : ((l.length : Int) == 300) = false := by rw [beq_eq_false_iff_ne]; omega
         go_wp2
         go_meet
         case rel => exact ⟨⟨HSG.out.drewN _⟩, ⟨HR2.out⟩, HBAD, h300⟩
      ·have hm0b : (m == 0) = false := by simp [hm0]
       cases hir : isRest m with
       | false =>
        have hbad : badM m l = false := by simp [badM, h247, hm0, hir]
        have HBAD := Aside0.mk hbad
        rw [hir] at HIR
        clear hbad hir
        go_wp2_with fail
        refine (impl_isRestart.calls m false _ HIR.out).mono ?_
        rintro e_ w_ ⟨rfl, ⟨n2, rfl⟩⟩
        by_cases h300 : l.length = 300
        ·exact absurd h300 HE2.out.2.2.2
        ·have h3b : ((l.length : Int) == 300) = false := by rw [beq_eq_false_iff_ne]; omega
         go_wp2
         go_meet
         case rel => exact ⟨⟨HSG.out.drewN _⟩, ⟨HR2.out⟩, HBAD, h300⟩
       | true =>
        cases hmr : mayRestM l with
        | false =>
         exact absurd HE2.out.2.2.1 (by simp [badM, hir, hmr])
        | true =>
         have hbad : badM m l = false := by simp [badM, h247, hm0, hmr]
         have HBAD := Aside0.mk hbad
         rw [hir] at HIR
         rw [hmr] at HMS
         clear hbad hir hmr
         go_wp2_with fail
         refine (impl_isRestart.calls m true _ HIR.out).mono ?_
         rintro e_ w_ ⟨rfl, ⟨n2, rfl⟩⟩
         go_wp2_with fail
         refine (impl_mayRestart.calls Al2 cl2 l true _ (Kd.C_drewN HSC.out _) HSL.out HMS.out).mono ?_
         rintro e_ w_ ⟨rfl, ⟨n3, rfl⟩⟩
         by_cases h300 : l.length = 300
         ·exact absurd h300 HE2.out.2.2.2
         ·have h3b : ((l.length : Int) == 300) = false := by rw [beq_eq_false_iff_ne]; omega
          go_wp2
          go_meet
          case rel => exact ⟨⟨HSG.out.drewN _⟩, ⟨HR2.out⟩, HBAD, h300⟩
    case rest =>
     obtain ⟨HSG3, HRF, HBAD, h300⟩ := hcut
     have hR5 : R = if m = 0 then (if 20000 < (un rest).1.length then (false, 5, (at_ : Int), at_, l) else (false, 0, 0, at_ + (un rest).2, l ++ [⟨0, (un rest).1⟩]))
       else if isRest m then (false, 0, 0, at_ + 2, l ++ [⟨m, []⟩]) else if rest.length < 4 then (false, 3, (b.length : Int), at_, l) else if 20000 < lenM rest then (false, 5, (at_ : Int), at_, l)
       else if (rest.length : Int) < 4 + lenM rest then (false, 3, (b.length : Int), at_, l) else (false, 0, 0, at_ + 4 + (lenM rest).toNat, l ++ [⟨m, (rest.drop 4).take (lenM rest).toNat⟩]) := by
      rw [HR4.out, HBAD.out, if_neg (by decide), if_neg h300]
     have HR5 := Aside0.mk hR5
     clear hR5 HR4 HSG HR2 HRC1 j0 j1 r0 r1 f0 f1 hx0 j2 HSC HSL HK2 HS2 HMR HMS hz254
     go_upto_block 2 with (fail)
     obtain ⟨hb3, v3, hk3, hs3, hq3⟩ := HSG3.out
     obtain ⟨Al3, cl3, e3⟩ := Kd.S_slice hs3
     subst e3
     have kb := blk_new wc (Obj.cells #[.int .i64 m, .slice none 0 0] 131)
     have KG := Aside0.mk (blk_alloc hk3 (Obj.cells #[.int .i64 m, .slice none 0 0] 131))
     have KQ := Aside0.mk (blk_alloc hq3 (Obj.cells #[.int .i64 m, .slice none 0 0] 131))
     have hsq : gq < wc.heap.size := blk_lt hq3
     have KR := Aside0.mk (blk_alloc HRF.out (Obj.cells #[.int .i64 m, .slice none 0 0] 131))
     have HB6 := Aside0.mk (below_alloc hb3 (Obj.cells #[.int .i64 m, .slice none 0 0] 131))
     have HS6 := Aside0.mk (Kd.S_mono (ok' := fun k => k < wc.heap.size) (Kd.S_alloc (Kd.S_bound hs3) (Obj.cells #[.int .i64 m, .slice none 0 0] 131)) (fun k hk => hk.2.2.1))
     have hsg : g < wc.heap.size := blk_lt hk3
     have hsr : gr < wc.heap.size := blk_lt HRF.out
     have hs0 : w0.heap.size ≤ wc.heap.size := hb3.size
     have hW6s : (wc.alloc (Obj.cells #[.int .i64 m, .slice none 0 0] 131)).heap.size = wc.heap.size + 1 := World.size_alloc ..
     have HRC6 := Aside0.mk (Kd.C_below HRC.out HB6.out)
     generalize wc.heap.size = gs at kb HS6 hsg hsr hsq hs0 hW6s ⊢
     generalize wc.alloc (Obj.cells #[.int .i64 m, .slice none 0 0] 131) = W6 at kb KG KR KQ HB6 HS6 hW6s HRC6 ⊢
     have KB := Aside0.mk kb
     have HW6 := Aside0.mk hW6s
     clear hb3 hk3 hs3 hq3 HSG3 HRF kb hW6s
     go_cut [] from 11 (fun wx => ∃ (n2 : Nat) (d : List Int) (vd : Value), Aside0 (R = (false, 0, 0, n2, l ++ [⟨m, d⟩])) ∧ Aside0 (wx.heap[gs]? = some (.cells #[.int .i64 m, vd] 131 (0, 0))) ∧ Aside0 (wx.heap[g]? = some (.cells #[.slice A b.length c, .int .i64 (n2 : Int), .slice Al3 l.length cl3] 136 (0, 0))) ∧ Aside0 (wx.heap[gr]? = some (.cells #[.int .i64 0, .int .i64 0] 65 (0, 0))) ∧ Aside0 (wx.heap[gq]? = some (.cells #[.int .i64 0, .int .i64 0] 65 (0, 0))) ∧
      Aside0 (Below w0.heap.size w0 wx) ∧ Aside0 (Kd.S k131 131 wx w0.heap.size (fun k => k < gs) (.slice Al3 l.length cl3) l) ∧ Aside0 (Kd.R (Kd.int .u8) 5 wx w0.heap.size (fun k => gs < k) vd d))
     case first =>
      have s0 := blk_cell KG.out 0
      have s1 := blk_cell KG.out 1
      simp at s0 s1
      have t0 := blk_cell KR.out 0
      have t1 := blk_cell KR.out 1
      simp at t0 t1
      have q0 := blk_frozen KR.out 0
      have q1 := blk_frozen KR.out 1
      have q2 := blk_frozen KG.out 1
      have q3 := blk_frozen KB.out 1
      have b1c := blk_cell KB.out 1
      simp at b1c
      by_cases hm0 : m = 0
      ·exact absurd hm0 HKM.out.1
      ·have hm0b : (m == 0) = false := by simp [hm0]
       cases hir : isRest m with
       | true =>
        have hRe : R = (false, 0, 0, at_ + 2, l ++ [⟨m, []⟩]) := by rw [HR5.out, if_neg hm0, if_pos hir]
        have HRE := Aside0.mk hRe
        rw [hir] at HIR
        clear hRe hir
        go_wp2_with fail
        refine (impl_isRestart.calls m true _ HIR.out).mono ?_
        rintro e_ w_ ⟨rfl, ⟨n2, rfl⟩⟩
        go_wp2
        go_meet
        case rel =>
         refine ⟨at_ + 2, [], .slice none 0 0, HRE, ⟨blk_far (w := W6.drewN n2) KB.out (by show gs ≠ g; omega) _⟩, ⟨blk_set (w := W6.drewN n2) KG.out 1 _⟩, ⟨blk_far (w := W6.drewN n2) KR.out (by show gr ≠ g; omega) _⟩, ⟨blk_far (w := W6.drewN n2) KQ.out hqg _⟩, ⟨below_set (pw_below_drewN HB6.out n2) hg⟩, ⟨?_⟩, ⟨Kd.R_nil _ _ _ _ _⟩⟩
         exact Kd.S_mono (Kd.S_far (p := ⟨g, 1, none⟩) (Kd.S_types (Kd.S_drewN HS6.out n2) (show (W6.drewN n2).heap[g]? = _ from KG.out) (by decide)) (fun k hk => hk.2) _) (fun k hk => hk.1)
       | false =>
        rw [HKM.out.2] at hir
        cases hir
     case rest =>
      obtain ⟨n2, d, vd, HRE, KB9, KG9, KR9, KQ9, HB9, HS9, HD9⟩ := hcut
      have hRe := HRE.out
      subst hRe
      obtain ⟨Ad, cd, ed⟩ := Kd.R_slice HD9.out
      subst ed
      have s0 := blk_cell KG9.out 0
      have s2 := blk_cell KG9.out 2
      simp at s0 s2
      have q4 := blk_frozen KG9.out 2
      have b0c := blk_cell KB9.out 0
      have b1c := blk_cell KB9.out 1
      simp at b0c b1c
      have t0 := blk_cell KR9.out 0
      have t1 := blk_cell KR9.out 1
      simp at t0 t1
      have s2a : ∀ o : Obj, (wc.alloc o).cell? ⟨g, 2, none⟩ = some (.slice Al3 l.length cl3) := fun o => (World.cell?_alloc_lt _ _ _ (blk_lt KG9.out)).trans s2
      have b0a : ∀ o : Obj, (wc.alloc o).cell? ⟨gs, 0, none⟩ = some (.int .i64 m) := fun o => (World.cell?_alloc_lt _ _ _ (blk_lt KB9.out)).trans b0c
      have b1a : ∀ o : Obj, (wc.alloc o).cell? ⟨gs, 1, none⟩ = some (.slice Ad d.length cd) := fun o => (World.cell?_alloc_lt _ _ _ (blk_lt KB9.out)).trans b1c
      have HOK := Aside0.mk (show ∀ k, gs < k → True ∧ some k ≠ (Value.slice Al3 l.length cl3).ownBlock from fun k hk => ⟨trivial, fun e => absurd (S_ok2 HS9.out k e.symm) (by omega)⟩)
      have HO9 := Aside0.mk (Kd.S_mono (ok' := fun k => True ∧ ¬ gs < k) HS9.out (fun k hk => ⟨trivial, by omega⟩))
      clear HRE
      go_upto_region 31 with (fail)
      go_region_law (refine Kd.S_append_step k131 (w0 := w0) (W := wc.drew) w0.heap.size (by rfl) (.tmp 195) (.tmp 197) 63 131 (.agg #[.int .i64 0, .slice none 0 0]) 32 (by rfl) Try.underlying63 info131 (by rfl) (by decide) (by decide) (.slice Al3 l.length cl3) l ⟨m, d⟩ [.int .i64 m, .slice Ad d.length cd] (fun _ => True) (fun k => gs < k) (by rfl) (by rfl) (k131_mkM _ _ _ _ (Kd.R_drew HD9.out)) HOK.out (fun _ _ => trivial) (Kd.S_drew HO9.out) (below_drew HB9.out) HB9.out.size (by omega) ?_; intro v8 w3 ho hb hg_ hat; obtain ⟨A8, c8, e8⟩ := Kd.S_slice ho; subst e8; have HO3 := Aside0.mk ho; have HB3 := Aside0.mk hb; have HG3 := Aside0.mk hg_; clear ho hb hg_ hat; have i1 := blk_grown (w := wc.drew) KG9.out HG3.out (Kd.S_ne (Kd.S_drew HS9.out) KG9.out (by decide)); have i2 := blk_grown (w := wc.drew) KR9.out HG3.out (Kd.S_ne (Kd.S_drew HS9.out) KR9.out (by decide)); have d3 := blk_cell i1 2; simp at d3; have e3 := blk_frozen i1 2; have I1 := Aside0.mk i1; have I2 := Aside0.mk i2; have I3 := Aside0.mk (blk_grown (w := wc.drew) KQ9.out HG3.out (Kd.S_ne (Kd.S_drew HS9.out) KQ9.out (by decide))); clear i1 i2)
      all_goals
       have hl1 : (l ++ [(⟨m, d⟩ : S131)]).length = l.length + 1 := by simp
       have ho3 := HO3.out
       rw [hl1] at ho3
       have hseg : SegK w0 (w3.setCell ⟨g, 2, none⟩ (.slice A8 (l.length + 1) c8)) g gq A c b n2 (l ++ [⟨m, d⟩]) := ⟨below_set HB3.out hg, _, blk_set I1.out 2 _, Kd.S_set ho3 I1.out (by decide) 2 _, blk_far I3.out hqg _⟩
       have hr9 := blk_far I2.out (p := ⟨g, 2, none⟩) (fun e => hgr e.symm) (.slice A8 (l.length + 1) c8)
       have HSEG := Aside0.mk hseg
       have HR9 := Aside0.mk hr9
       clear hseg hr9 ho3 hl1
       generalize w3.setCell ⟨g, 2, none⟩ (.slice A8 (l.length + 1) c8) = W9 at HSEG HR9 ⊢
       have u0 := blk_cell HR9.out 0
       have u1 := blk_cell HR9.out 1
       simp at u0 u1
       have u2 := blk_frozen HR9.out 0
       have u3 := blk_frozen HR9.out 1
       go_wp2
       obtain ⟨e1_, e2_⟩ := SegK.fin HSEG.out HR9.out hgr hqr hgw (.int .i64 0) (.int .i64 0)
       refine bodyPost_ret (results_list (rs := [.tmp 2, .cell 3 65]) rfl (by simp) (.tmp (.cell gr 65 #[.int .i64 0, .int .i64 0] (0, 0) _ rfl (by exact e2_) Try.underlying65 rfl (by kernel_rfl) .nil))) rfl ?_
       exact ⟨rfl, by first | exact e1_.drew | exact e1_⟩
set_option maxRecDepth 100000 in
set_option maxHeartbeats 4000000 in
theorem next_calls_b3 (w0 W : World) (g gq : Nat) (A : Option Addr) (c : Nat) (b : List Int) (at_ : Nat) (l : List S131) (h : SegK w0 W g gq A c b at_ l) (hg : w0.heap.size ≤ g) (hqg : gq ≠ g) (hC : Kd.C (Kd.int .u8) w0 A b.length b) (hc : b.length ≤ c) (hat : at_ ≤ b.length) (hlen : b.length ≤ 60000) (hB : ∀ x ∈ b, 0 ≤ x ∧ x ≤ 255) (hl : l.length ≤ 300) (hE : (¬ (b.drop at_ = [] ∨ b.drop at_ = [255]) ∧ markM (b.drop at_) ≠ 254 ∧ badM (markM (b.drop at_)) l = false ∧ l.length ≠ 300)) (hK : markM (b.drop at_) ≠ 0 ∧ isRest (markM (b.drop at_)) = false) :
  Calls Try.prog 133 #[.pointer (some ⟨g, 0, none⟩)] W fun e w' => e = .returned (.tuple #[.bool (nxt b at_ l).1, .agg #[.int .i64 (nxt b at_ l).2.1, .int .i64 (nxt b at_ l).2.2.1]]) ∧ SegK w0 w' g gq A c b (nxt b at_ l).2.2.2.1 (nxt b at_ l).2.2.2.2 := by
 obtain ⟨hbel, v, hk, hS, hq⟩ := h
 have HQ := Aside0.mk hq
 have k0 := blk_cell hk 0
 have k1 := blk_cell hk 1
 have k2 := blk_cell hk 2
 simp at k0 k1 k2
 obtain ⟨Al, cl, el⟩ := Kd.S_slice hS
 subst el
 have HBEL := Aside0.mk hbel
 have HK := Aside0.mk hk
 have HS := Aside0.mk hS
 have HCB := Aside0.mk hC
 have HCC := Aside0.mk hc
 have HBB := Aside0.mk hB
 have hatc : at_ ≤ c := by omega
 have HE := Aside0.mk hE
 have HKK := Aside0.mk hK
 clear hE hK
 clear hbel hk hS hC hB hq
 obtain ⟨R, hR⟩ : ∃ R, R = nxt b at_ l := ⟨_, rfl⟩
 rw [← hR]
 have HRR := Aside0.mk hR
 clear hR
 go_enter Try.func133, Try.ntmps133
 go_upto_region 1 with (fail)
 have hr := blk_new W (Obj.cells #[.int .i64 0, .int .i64 0] 65)
 have HK1 := Aside0.mk (blk_alloc HK.out (Obj.cells #[.int .i64 0, .int .i64 0] 65))
 have HS1 := Aside0.mk (Kd.S_alloc HS.out (Obj.cells #[.int .i64 0, .int .i64 0] 65))
 have HB1 := Aside0.mk (below_alloc HBEL.out (Obj.cells #[.int .i64 0, .int .i64 0] 65))
 have hgr : g ≠ W.heap.size := by have := blk_lt HK.out; omega
 have hqr : gq ≠ W.heap.size := by have := blk_lt HQ.out; omega
 have HQ1 := Aside0.mk (blk_alloc HQ.out (Obj.cells #[.int .i64 0, .int .i64 0] 65))
 have hgw : w0.heap.size ≤ W.heap.size := HBEL.out.size
 generalize W.heap.size = gr at hr hgr hqr hgw ⊢
 generalize W.alloc (Obj.cells #[.int .i64 0, .int .i64 0] 65) = W1 at hr HK1 HS1 HB1 HQ1 ⊢
 clear k0 k1 k2 HK HS HBEL HQ
 have k0 := blk_cell HK1.out 0
 have k1 := blk_cell HK1.out 1
 have k2 := blk_cell HK1.out 2
 simp at k0 k1 k2
 have HR := Aside0.mk hr
 clear hr
 go_wp2
 go_quiet (fail)
 go_upto_block 0 with (fail)
 obtain ⟨rest, hrest⟩ : ∃ rest, rest = b.drop at_ := ⟨_, rfl⟩
 have hrl : b.length - at_ = rest.length := by rw [hrest, List.length_drop]
 have hrc : Kd.C (Kd.int .u8) w0 (if c = at_ then A else A.map (·.add at_)) rest.length rest := by
  have h9 := Kd.C_drop HCB.out hat HCC.out
  rw [show (Kd.int IntKind.u8).sz = 1 from rfl] at h9
  simp only [Nat.mul_one] at h9
  rw [hrest]
  exact h9
 rw [hrl]
 generalize (if c = at_ then A else Option.map (fun x => x.add at_) A) = Ar at hrc ⊢
 have hrcc : rest.length ≤ c - at_ := by rw [← hrl]; omega
 have HRC := Aside0.mk hrc
 have HRCC := Aside0.mk hrcc
 have HREST := Aside0.mk hrest
 have HRL := Aside0.mk hrl
 have HRB := Aside0.mk (show ∀ x ∈ rest, 0 ≤ x ∧ x ≤ 255 from fun x hx => HBB.out x (by rw [hrest] at hx; exact List.mem_of_mem_drop hx))
 have HSG : Aside0 (SegK w0 (W1.drewN nq) g gq A c b at_ l) := ⟨pw_below_drewN HB1.out nq, _, HK1.out, Kd.S_drewN HS1.out nq, HQ1.out⟩
 have HR2 : Aside0 ((W1.drewN nq).heap[gr]? = some (.cells #[.int .i64 0, .int .i64 0] 65 (0, 0))) := ⟨HR.out⟩
 have HRC1 := Aside0.mk (Kd.C_below hrc HSG.out.1)
 generalize hcr : c - at_ = cr at HRCC ⊢
 generalize W1.drewN nq = W2 at HSG HR2 HRC1 ⊢
 clear hrest hrl hrc hrcc HK1 HS1 HB1 HQ1 HR k0 k1 k2 hcr
 have j0 : W2.cell? ⟨g, 0, none⟩ = some (.slice A b.length c) := by obtain ⟨_, v, h2, _⟩ := HSG.out; exact blk_cell h2 0
 have j1 : W2.cell? ⟨g, 1, none⟩ = some (.int .i64 (at_ : Int)) := by obtain ⟨_, v, h2, _⟩ := HSG.out; exact blk_cell h2 1
 have r0 : W2.cell? ⟨gr, 0, none⟩ = some (.int .i64 0) := blk_cell HR2.out 0
 have r1 : W2.cell? ⟨gr, 1, none⟩ = some (.int .i64 0) := blk_cell HR2.out 1
 have f0 : W2.frozen? ⟨gr, 0, none⟩ = false := blk_frozen HR2.out 0
 have f1 : W2.frozen? ⟨gr, 1, none⟩ = false := blk_frozen HR2.out 1
 by_cases hend : rest = [] ∨ rest = [255]
 ·exact absurd hend (by rw [HREST.out]; exact HE.out.1)
 ·have hne : rest ≠ [] := fun e => hend (.inl e)
  have hlr : 0 < rest.length := List.length_pos_iff.2 hne
  obtain ⟨ad, q1, hx0⟩ := Kd.at_int HRC1.out 0 (by omega) (by omega)
  cases q1
  rw [show (0 : Int).toNat = 0 from rfl, Addr.add_zero'] at hx0
  have hx1 : 1 < rest.length → W2.cell? ⟨ad.block, ad.off + 1, none⟩ = some (.int .u8 (rd rest 1)) := fun h => by
   obtain ⟨ad', q2, hx⟩ := Kd.at_int HRC1.out 1 (by omega) (by omega)
   cases q2
   have e := add_field ad 0 1 (by omega)
   rw [Nat.zero_add, Addr.add_zero'] at e
   rw [show (1 : Int).toNat = 1 from rfl, e] at hx
   exact hx
  have HX1 := Aside0.mk hx1
  obtain ⟨b0, hb0⟩ : ∃ b0, b0 = rd rest 0 := ⟨_, rfl⟩
  obtain ⟨b1, hb1⟩ : ∃ b1, b1 = rd rest 1 := ⟨_, rfl⟩
  obtain ⟨m, hm⟩ : ∃ m, m = markM rest := ⟨_, rfl⟩
  have hm2 : m = if b0 ≠ 255 ∨ b1 = 0 then 0 else b1 := by rw [hm, markM, hb0, hb1]
  have hb0r : 0 ≤ b0 ∧ b0 ≤ 255 := by
   rw [hb0]; cases rest with
   | nil => simp at hlr
   | cons x t => exact HRB.out x List.mem_cons_self
  have hb1r : 0 ≤ b1 ∧ b1 ≤ 255 := by
   rw [hb1]; match rest with
   | [] => simp [rd]
   | [x] => simp [rd]
   | x :: y :: t => exact HRB.out y (by simp)
  have hone : rest.length = 1 → b0 ≠ 255 := by
   intro h e
   obtain ⟨x, rfl⟩ := List.length_eq_one_iff.1 h
   exact hend (.inr (by rw [← e, hb0]; rfl))
  rw [← hb0] at hx0
  have hR3 : R = if m = 254 then (true, 0, 0, at_ + 2, l) else if badM m l then (false, 4, (at_ : Int), at_, l) else if l.length = 300 then (false, 6, (at_ : Int), at_, l)
    else if m = 0 then (if 20000 < (un rest).1.length then (false, 5, (at_ : Int), at_, l) else (false, 0, 0, at_ + (un rest).2, l ++ [⟨0, (un rest).1⟩]))
    else if isRest m then (false, 0, 0, at_ + 2, l ++ [⟨m, []⟩]) else if rest.length < 4 then (false, 3, (b.length : Int), at_, l) else if 20000 < lenM rest then (false, 5, (at_ : Int), at_, l)
    else if (rest.length : Int) < 4 + lenM rest then (false, 3, (b.length : Int), at_, l) else (false, 0, 0, at_ + 4 + (lenM rest).toNat, l ++ [⟨m, (rest.drop 4).take (lenM rest).toNat⟩]) := by
   rw [HRR.out, nxt, ← HREST.out, if_neg hend, ← hm]
  have HR3 := Aside0.mk hR3
  have HB1E := Aside0.mk hb1
  have hmr : 0 ≤ m ∧ m ≤ 255 := by rw [hm2]; split <;> omega
  have HE2 := Aside0.mk (show (¬ (rest = [] ∨ rest = [255]) ∧ m ≠ 254 ∧ badM m l = false ∧ l.length ≠ 300) from by rw [hm, HREST.out]; exact HE.out)
  have HKM := Aside0.mk (show m ≠ 0 ∧ isRest m = false from by rw [hm, HREST.out]; exact HKK.out)
  have HM2 := Aside0.mk hm2
  have HMM := Aside0.mk hm
  have HEND := Aside0.mk hend
  clear hx1 hb0 hb1 hm hm2 hR3 hend hne HRR
  go_cut [6] from 11 (fun v6 wx => v6 = .int .i64 m ∧ wx = W2)
  case first =>
   have z0 : ((rest.length : Int) == 0) = false := by rw [beq_eq_false_iff_ne]; omega
   by_cases h255 : b0 = 255
   ·have h1 : 1 < rest.length := by
     rcases Nat.lt_or_ge 1 rest.length with h | h
     ·exact h
     ·exact absurd h255 (hone (by omega))
    have z1 : ((rest.length : Int) == 1) = false := by rw [beq_eq_false_iff_ne]; omega
    have hx1 := HX1.out h1
    rw [← show b1 = rd rest 1 from HB1E.out] at hx1
    subst h255
    by_cases hz : b1 = 0
    ·subst hz
     have hmz : m = 0 := by rw [HM2.out]; simp
     subst hmz
     go_wp2
     go_meet
     case rel => exact ⟨rfl, rfl⟩
    ·have hmz : m = b1 := by rw [HM2.out]; simp [hz]
     subst hmz
     go_wp2
     go_meet
     case rel => exact ⟨by first | rfl | (congr 1; omega), rfl⟩
   ·have hmz : m = 0 := by rw [HM2.out]; simp [h255]
    subst hmz
    have z2 : (b0 == 255) = false := by simp [h255]
    by_cases h1 : rest.length = 1
    ·have z1 : ((rest.length : Int) == 1) = true := by simp [h1]
     clear h1
     go_wp2
     go_meet
     case rel => exact ⟨rfl, rfl⟩
    ·have z1 : ((rest.length : Int) == 1) = false := by rw [beq_eq_false_iff_ne]; omega
     go_wp2
     go_meet
     case rel => exact ⟨rfl, rfl⟩
  case rest =>
   obtain ⟨rfl, rfl⟩ := hcut
   by_cases h254 : m = 254
   ·exact absurd h254 HE2.out.2.1
   ·have hz254 : (m == 254) = false := by simp [h254]
    obtain ⟨_, v2, hk2, hs2, _⟩ := HSG.out
    obtain ⟨Al2, cl2, e2⟩ := Kd.S_slice hs2
    subst e2
    have j2 := blk_cell hk2 2
    simp at j2
    have HSR := Kd.S_reads' hs2
    have HSC := Aside0.mk HSR.2.2
    have HSL := Aside0.mk HSR.2.1
    have HK2 := Aside0.mk hk2
    have HS2 := Aside0.mk hs2
    have HMR := Aside0.mk (mayRun_val l hl)
    have HMS := Aside0.mk (mayRest_val l hl)
    have HIR := Aside0.mk (isRest_val m)
    clear hk2 hs2 HSR
    have hR4 : R = if badM m l then (false, 4, (at_ : Int), at_, l) else if l.length = 300 then (false, 6, (at_ : Int), at_, l)
      else if m = 0 then (if 20000 < (un rest).1.length then (false, 5, (at_ : Int), at_, l) else (false, 0, 0, at_ + (un rest).2, l ++ [⟨0, (un rest).1⟩]))
      else if isRest m then (false, 0, 0, at_ + 2, l ++ [⟨m, []⟩]) else if rest.length < 4 then (false, 3, (b.length : Int), at_, l) else if 20000 < lenM rest then (false, 5, (at_ : Int), at_, l)
      else if (rest.length : Int) < 4 + lenM rest then (false, 3, (b.length : Int), at_, l) else (false, 0, 0, at_ + 4 + (lenM rest).toNat, l ++ [⟨m, (rest.drop 4).take (lenM rest).toNat⟩]) := by
     rw [HR3.out, if_neg h254]
    have HR4 := Aside0.mk hR4
    clear hR4 HR3
    go_upto_block 1 with (fail)
    go_cut [] from 11 (fun wx => Aside0 (SegK w0 wx g gq A c b at_ l) ∧ Aside0 (wx.heap[gr]? = some (.cells #[.int .i64 0, .int .i64 0] 65 (0, 0))) ∧ Aside0 (badM m l = false) ∧ l.length ≠ 300)
    case first =>
     by_cases h247 : 247 < m
     ·exact absurd HE2.out.2.2.1 (by simp [badM, h247])
     ·by_cases hm0 : m = 0
      ·subst hm0
       cases hmr : mayRunM l with
       | false =>
        exact absurd HE2.out.2.2.1 (by simp [badM, hmr])
       | true =>
        have hbad : badM 0 l = false := by simp [badM, hmr, isRest]
        have HBAD := Aside0.mk hbad
        have hir0 : isRest 0 = false := by decide
        rw [hmr] at HMR
        rw [hir0] at HIR
        clear hbad hmr hir0
        go_wp2_with fail
        refine (impl_mayRun.calls Al2 cl2 l true _ (Kd.C_drewN HSC.out 0) HSL.out HMR.out).mono ?_
        rintro e_ w_ ⟨rfl, ⟨n1, rfl⟩⟩
        go_wp2_with fail
        refine (impl_isRestart.calls 0 false _ HIR.out).mono ?_
        rintro e_ w_ ⟨rfl, ⟨n2, rfl⟩⟩
        by_cases h300 : l.length = 300
        ·exact absurd h300 HE2.out.2.2.2
        ·have h3b : ((l.length : Int) == 300) = false := by rw [beq_eq_false_iff_ne]; omega
         go_wp2
         go_meet
         case rel => exact ⟨⟨HSG.out.drewN _⟩, ⟨HR2.out⟩, HBAD, h300⟩
      ·have hm0b : (m == 0) = false := by simp [hm0]
       cases hir : isRest m with
       | false =>
        have hbad : badM m l = false := by simp [badM, h247, hm0, hir]
        have HBAD := Aside0.mk hbad
        rw [hir] at HIR
        clear hbad hir
        go_wp2_with fail
        refine (impl_isRestart.calls m false _ HIR.out).mono ?_
        rintro e_ w_ ⟨rfl, ⟨n2, rfl⟩⟩
        by_cases h300 : l.length = 300
        ·exact absurd h300 HE2.out.2.2.2
        ·have h3b : ((l.length : Int) == 300) = false := by rw [beq_eq_false_iff_ne]; omega
         go_wp2
         go_meet
         case rel => exact ⟨⟨HSG.out.drewN _⟩, ⟨HR2.out⟩, HBAD, h300⟩
       | true =>
        cases hmr : mayRestM l with
        | false =>
         exact absurd HE2.out.2.2.1 (by simp [badM, hir, hmr])
        | true =>
         have hbad : badM m l = false := by simp [badM, h247, hm0, hmr]
         have HBAD := Aside0.mk hbad
         rw [hir] at HIR
         rw [hmr] at HMS
         clear hbad hir hmr
         go_wp2_with fail
         refine (impl_isRestart.calls m true _ HIR.out).mono ?_
         rintro e_ w_ ⟨rfl, ⟨n2, rfl⟩⟩
         go_wp2_with fail
         refine (impl_mayRestart.calls Al2 cl2 l true _ (Kd.C_drewN HSC.out _) HSL.out HMS.out).mono ?_
         rintro e_ w_ ⟨rfl, ⟨n3, rfl⟩⟩
         by_cases h300 : l.length = 300
         ·exact absurd h300 HE2.out.2.2.2
         ·have h3b : ((l.length : Int) == 300) = false := by rw [beq_eq_false_iff_ne]; omega
          go_wp2
          go_meet
          case rel => exact ⟨⟨HSG.out.drewN _⟩, ⟨HR2.out⟩, HBAD, h300⟩
    case rest =>
     obtain ⟨HSG3, HRF, HBAD, h300⟩ := hcut
     have hR5 : R = if m = 0 then (if 20000 < (un rest).1.length then (false, 5, (at_ : Int), at_, l) else (false, 0, 0, at_ + (un rest).2, l ++ [⟨0, (un rest).1⟩]))
       else if isRest m then (false, 0, 0, at_ + 2, l ++ [⟨m, []⟩]) else if rest.length < 4 then (false, 3, (b.length : Int), at_, l) else if 20000 < lenM rest then (false, 5, (at_ : Int), at_, l)
       else if (rest.length : Int) < 4 + lenM rest then (false, 3, (b.length : Int), at_, l) else (false, 0, 0, at_ + 4 + (lenM rest).toNat, l ++ [⟨m, (rest.drop 4).take (lenM rest).toNat⟩]) := by
      rw [HR4.out, HBAD.out, if_neg (by decide), if_neg h300]
     have HR5 := Aside0.mk hR5
     clear hR5 HR4 HSG HR2 HRC1 j0 j1 r0 r1 f0 f1 hx0 j2 HSC HSL HK2 HS2 HMR HMS hz254
     go_upto_block 2 with (fail)
     obtain ⟨hb3, v3, hk3, hs3, hq3⟩ := HSG3.out
     obtain ⟨Al3, cl3, e3⟩ := Kd.S_slice hs3
     subst e3
     have kb := blk_new wc (Obj.cells #[.int .i64 m, .slice none 0 0] 131)
     have KG := Aside0.mk (blk_alloc hk3 (Obj.cells #[.int .i64 m, .slice none 0 0] 131))
     have KQ := Aside0.mk (blk_alloc hq3 (Obj.cells #[.int .i64 m, .slice none 0 0] 131))
     have hsq : gq < wc.heap.size := blk_lt hq3
     have KR := Aside0.mk (blk_alloc HRF.out (Obj.cells #[.int .i64 m, .slice none 0 0] 131))
     have HB6 := Aside0.mk (below_alloc hb3 (Obj.cells #[.int .i64 m, .slice none 0 0] 131))
     have HS6 := Aside0.mk (Kd.S_mono (ok' := fun k => k < wc.heap.size) (Kd.S_alloc (Kd.S_bound hs3) (Obj.cells #[.int .i64 m, .slice none 0 0] 131)) (fun k hk => hk.2.2.1))
     have hsg : g < wc.heap.size := blk_lt hk3
     have hsr : gr < wc.heap.size := blk_lt HRF.out
     have hs0 : w0.heap.size ≤ wc.heap.size := hb3.size
     have hW6s : (wc.alloc (Obj.cells #[.int .i64 m, .slice none 0 0] 131)).heap.size = wc.heap.size + 1 := World.size_alloc ..
     have HRC6 := Aside0.mk (Kd.C_below HRC.out HB6.out)
     generalize wc.heap.size = gs at kb HS6 hsg hsr hsq hs0 hW6s ⊢
     generalize wc.alloc (Obj.cells #[.int .i64 m, .slice none 0 0] 131) = W6 at kb KG KR KQ HB6 HS6 hW6s HRC6 ⊢
     have KB := Aside0.mk kb
     have HW6 := Aside0.mk hW6s
     clear hb3 hk3 hs3 hq3 HSG3 HRF kb hW6s
     go_cut [] from 11 (fun wx => ∃ (n2 : Nat) (d : List Int) (vd : Value), Aside0 (R = (false, 0, 0, n2, l ++ [⟨m, d⟩])) ∧ Aside0 (wx.heap[gs]? = some (.cells #[.int .i64 m, vd] 131 (0, 0))) ∧ Aside0 (wx.heap[g]? = some (.cells #[.slice A b.length c, .int .i64 (n2 : Int), .slice Al3 l.length cl3] 136 (0, 0))) ∧ Aside0 (wx.heap[gr]? = some (.cells #[.int .i64 0, .int .i64 0] 65 (0, 0))) ∧ Aside0 (wx.heap[gq]? = some (.cells #[.int .i64 0, .int .i64 0] 65 (0, 0))) ∧
      Aside0 (Below w0.heap.size w0 wx) ∧ Aside0 (Kd.S k131 131 wx w0.heap.size (fun k => k < gs) (.slice Al3 l.length cl3) l) ∧ Aside0 (Kd.R (Kd.int .u8) 5 wx w0.heap.size (fun k => gs < k) vd d))
     case first =>
      have s0 := blk_cell KG.out 0
      have s1 := blk_cell KG.out 1
      simp at s0 s1
      have t0 := blk_cell KR.out 0
      have t1 := blk_cell KR.out 1
      simp at t0 t1
      have q0 := blk_frozen KR.out 0
      have q1 := blk_frozen KR.out 1
      have q2 := blk_frozen KG.out 1
      have q3 := blk_frozen KB.out 1
      have b1c := blk_cell KB.out 1
      simp at b1c
      by_cases hm0 : m = 0
      ·exact absurd hm0 HKM.out.1
      ·have hm0b : (m == 0) = false := by simp [hm0]
       cases hir : isRest m with
       | true =>
        rw [HKM.out.2] at hir
        cases hir
       | false =>
        have hR6 : R = if rest.length < 4 then (false, 3, (b.length : Int), at_, l) else if 20000 < lenM rest then (false, 5, (at_ : Int), at_, l)
          else if (rest.length : Int) < 4 + lenM rest then (false, 3, (b.length : Int), at_, l) else (false, 0, 0, at_ + 4 + (lenM rest).toNat, l ++ [⟨m, (rest.drop 4).take (lenM rest).toNat⟩]) := by
         rw [HR5.out, if_neg hm0, hir, if_neg (by decide)]
        have HR6 := Aside0.mk hR6
        rw [hir] at HIR
        clear hR6 hir
        go_wp2_with fail
        refine (impl_isRestart.calls m false _ HIR.out).mono ?_
        rintro e_ w_ ⟨rfl, ⟨n2, rfl⟩⟩
        have KG2 : Aside0 ((W6.drewN n2).heap[g]? = some (.cells #[.slice A b.length c, .int .i64 (at_ : Int), .slice Al3 l.length cl3] 136 (0, 0))) := ⟨KG.out⟩
        have KR2 : Aside0 ((W6.drewN n2).heap[gr]? = some (.cells #[.int .i64 0, .int .i64 0] 65 (0, 0))) := ⟨KR.out⟩
        have KQ2 : Aside0 ((W6.drewN n2).heap[gq]? = some (.cells #[.int .i64 0, .int .i64 0] 65 (0, 0))) := ⟨KQ.out⟩
        have KB2 : Aside0 ((W6.drewN n2).heap[gs]? = some (.cells #[.int .i64 m, .slice none 0 0] 131 (0, 0))) := ⟨KB.out⟩
        have HB7 := Aside0.mk (pw_below_drewN HB6.out n2)
        have HS7 := Aside0.mk (Kd.S_drewN HS6.out n2)
        have HRC7 := Aside0.mk (Kd.C_drewN HRC6.out n2)
        have HW7 : Aside0 ((W6.drewN n2).heap.size = gs + 1) := ⟨HW6.out⟩
        clear s0 s1 t0 t1 q0 q1 q2 q3 b1c KG KR KQ KB HB6 HS6 HRC6 HW6
        generalize W6.drewN n2 = W7 at KG2 KR2 KQ2 KB2 HB7 HS7 HRC7 HW7 ⊢
        have s0 := blk_cell KG2.out 0
        have s1 := blk_cell KG2.out 1
        simp at s0 s1
        have t0 := blk_cell KR2.out 0
        have t1 := blk_cell KR2.out 1
        simp at t0 t1
        have q0 := blk_frozen KR2.out 0
        have q1 := blk_frozen KR2.out 1
        have q2 := blk_frozen KG2.out 1
        have q3 := blk_frozen KB2.out 1
        have b1c := blk_cell KB2.out 1
        simp at b1c
        have hseg : SegK w0 W7 g gq A c b at_ l := ⟨HB7.out, _, KG2.out, Kd.S_mono HS7.out (fun _ _ => trivial), KQ2.out⟩
        have HSEG := Aside0.mk hseg
        clear hseg
        have hrl2 : rest.length ≤ 60000 := by have := HRL.out; omega
        by_cases h4 : rest.length < 4
        ·have hRe : R = (false, 3, (b.length : Int), at_, l) := by rw [HR6.out, if_pos h4]
         subst hRe
         go_wp2
         go_region
         go_wp2
         obtain ⟨e1_, e2_⟩ := SegK.fin HSEG.out KR2.out hgr hqr hgw (.int .i64 3) (.int .i64 b.length)
         refine bodyPost_ret (results_list (rs := [.tmp 2, .cell 3 65]) rfl (by simp) (.tmp (.cell gr 65 #[.int .i64 3, .int .i64 b.length] (0, 0) _ rfl (by exact e2_) Try.underlying65 rfl (by kernel_rfl) .nil))) rfl ?_
         exact ⟨rfl, by first | exact e1_.drew | exact e1_⟩
        ·have hc4 : ∀ i : Nat, 0 < i → i < rest.length → W7.cell? ⟨ad.block, ad.off + i, none⟩ = some (.int .u8 (rd rest i)) := fun i h0 h => by
          obtain ⟨ad', q2, hx⟩ := Kd.at_int HRC7.out (i : Int) (by omega) (by omega)
          cases q2
          have e := add_field ad 0 i h0
          rw [Nat.zero_add, Addr.add_zero'] at e
          rw [Int.toNat_natCast, e] at hx
          exact hx
         have c2_ := hc4 2 (by omega) (by omega)
         have c3_ := hc4 3 (by omega) (by omega)
         obtain ⟨y2, hy2⟩ : ∃ y, y = rd rest 2 := ⟨_, rfl⟩
         obtain ⟨y3, hy3⟩ : ∃ y, y = rd rest 3 := ⟨_, rfl⟩
         rw [show ((2 : Nat) : Int) = 2 from rfl, ← hy2] at c2_
         rw [show ((3 : Nat) : Int) = 3 from rfl, ← hy3] at c3_
         have hb23 : (0 ≤ y2 ∧ y2 ≤ 255) ∧ (0 ≤ y3 ∧ y3 ≤ 255) := by
          rw [hy2, hy3]
          match rest, h4 with
          | [], h4 => simp at h4
          | [_], h4 => simp at h4
          | [_, _], h4 => simp at h4
          | [_, _, _], h4 => simp at h4
          | p0 :: p1 :: p2 :: p3 :: t, _ => exact ⟨HRB.out p2 (by simp), HRB.out p3 (by simp)⟩
         obtain ⟨⟨y20, y21⟩, y30, y31⟩ := hb23
         have hor := or_byte y2 y3 y20 (by omega) y30 y31
         have hln : lenM rest = y2 * 256 + y3 := by rw [lenM, hy2, hy3]
         rw [hln] at HR6
         clear hc4 hy2 hy3 hln
         go_wp2
         go_quiet (fail)
         obtain ⟨n, hn⟩ : ∃ n : Nat, y2 * 256 + y3 = (n : Int) := ⟨(y2 * 256 + y3).toNat, by omega⟩
         rw [hn]
         rw [hn] at HR6
         rw [Int.toNat_natCast] at HR6
         clear hor hn c2_ c3_
         by_cases h20 : 20000 < (n : Int)
         ·have hRe : R = (false, 5, (at_ : Int), at_, l) := by rw [HR6.out, if_neg h4, if_pos h20]
          subst hRe
          go_wp2
          obtain ⟨e1_, e2_⟩ := SegK.fin (HSEG.out.drewN nq) (show (W7.drewN nq).heap[gr]? = some (.cells #[.int .i64 0, .int .i64 0] 65 (0, 0)) from KR2.out) hgr hqr hgw (.int .i64 5) (.int .i64 at_)
          refine bodyPost_ret (results_list (rs := [.tmp 2, .cell 3 65]) rfl (by simp) (.tmp (.cell gr 65 #[.int .i64 5, .int .i64 at_] (0, 0) _ rfl (by exact e2_) Try.underlying65 rfl (by kernel_rfl) .nil))) rfl ?_
          exact ⟨rfl, by first | exact e1_.drew | exact e1_⟩
         ·by_cases h4n : (rest.length : Int) < 4 + n
          ·have hRe : R = (false, 3, (b.length : Int), at_, l) := by rw [HR6.out, if_neg h4, if_neg h20, if_pos h4n]
           subst hRe
           go_wp2
           go_region
           go_wp2
           obtain ⟨e1_, e2_⟩ := SegK.fin (HSEG.out.drewN nq) (show (W7.drewN nq).heap[gr]? = some (.cells #[.int .i64 0, .int .i64 0] 65 (0, 0)) from KR2.out) hgr hqr hgw (.int .i64 3) (.int .i64 b.length)
           refine bodyPost_ret (results_list (rs := [.tmp 2, .cell 3 65]) rfl (by simp) (.tmp (.cell gr 65 #[.int .i64 3, .int .i64 b.length] (0, 0) _ rfl (by exact e2_) Try.underlying65 rfl (by kernel_rfl) .nil))) rfl ?_
           exact ⟨rfl, by first | exact e1_.drew | exact e1_⟩
          ·have hRe : R = (false, 0, 0, at_ + 4 + n, l ++ [⟨m, (rest.drop 4).take n⟩]) := by rw [HR6.out, if_neg h4, if_neg h20, if_neg h4n]
           have HRE := Aside0.mk hRe
           clear hRe
           have hcc := HRCC.out
           have hln4 : ((rest.drop 4).take n).length = n := by rw [List.length_take, List.length_drop]; omega
           have HLN := Aside0.mk hln4
           have HCT := Aside0.mk (Kd.C_take (m := n) (Kd.C_drop (m := 4) (c := cr) HRC7.out (by omega) HRCC.out) (by rw [List.length_drop]; omega))
           by_cases hcr : cr = 4
           ·have HC8 : Aside0 (Kd.C (Kd.int .u8) (W7.drewN nq) (some ad) ((rest.drop 4).take n).length ((rest.drop 4).take n)) := by
             have h9 := HCT.out
             rw [if_pos hcr] at h9
             exact ⟨Kd.C_drewN h9 nq⟩
            subst hcr
            clear hln4 HCT
            go_wp2_with fail
            rw [show (Value.slice (some ad) n 0) = Value.slice (some ad) ((rest.drop 4).take n).length (4 - 4) by rw [HLN.out]]
            refine (clone_calls (some ad) (4 - 4) ((rest.drop 4).take n) _ HC8.out (by rw [HLN.out]; omega) (by rw [HLN.out]; omega)).mono ?_
            rintro e_ w2 ⟨vd, rfl, hd, hb2⟩
            obtain ⟨Ad, cd, ed⟩ := Kd.R_slice hd
            subst ed
            obtain ⟨dd, hdd⟩ : ∃ dd, dd = (rest.drop 4).take n := ⟨_, rfl⟩
            rw [← hdd] at HRE hd
            have HD := Aside0.mk (Kd.R_mono (ok' := fun k => gs < k) (Kd.R_lower (Kd.R_bound hd) (show w0.heap.size ≤ (W7.drewN nq).heap.size by have := HW7.out; show w0.heap.size ≤ W7.heap.size; omega)) (fun k hk => by have h1 := hk.2.1; have h2 : (W7.drewN nq).heap.size = gs + 1 := HW7.out; omega))
            have KG8 := Aside0.mk (blk_below (w := W7.drewN nq) KG2.out hb2)
            have KR8 := Aside0.mk (blk_below (w := W7.drewN nq) KR2.out hb2)
            have KQ8 := Aside0.mk (blk_below (w := W7.drewN nq) KQ2.out hb2)
            have KB8 := Aside0.mk (blk_below (w := W7.drewN nq) KB2.out hb2)
            have HB8 := Aside0.mk (Below.trans (pw_below_drewN HB7.out nq) (hb2.mono (pw_below_drewN HB7.out nq).size))
            have HS8 := Aside0.mk (Kd.S_below (Kd.S_drewN HS7.out nq) hb2)
            rw [← hdd]
            clear hd hb2 hdd s0 s1 t0 t1 q0 q1 q2 q3 b1c
            have s1 := blk_cell KG8.out 1
            simp at s1
            have b1c := blk_cell KB8.out 1
            simp at b1c
            have q2 := blk_frozen KG8.out 1
            have q3 := blk_frozen KB8.out 1
            have hnsg : ¬ gs = g := by omega
            have hngs : ¬ g = gs := by omega
            go_wp2
            go_meet
            case rel =>
             refine ⟨at_ + 4 + n, dd, .slice Ad dd.length cd, HRE, ⟨blk_far (blk_set KB8.out 1 _) (by show gs ≠ g; omega) _⟩, ⟨blk_set (blk_far KG8.out (by show g ≠ gs; omega) _) 1 _⟩, ⟨blk_far (blk_far KR8.out (by show gr ≠ gs; omega) _) (by show gr ≠ g; omega) _⟩, ⟨blk_far (blk_far KQ8.out (by show gq ≠ gs; omega) _) hqg _⟩, ⟨below_set (below_set HB8.out hs0) hg⟩, ⟨?_⟩, ⟨?_⟩⟩
             ·exact Kd.S_mono (Kd.S_far (p := ⟨g, 1, none⟩) (Kd.S_far (p := ⟨gs, 1, none⟩) (Kd.S_types HS8.out KG8.out (by decide)) (fun k hk => by show k ≠ gs; have := hk.1; omega) _) (fun k hk => hk.2) _) (fun k hk => hk.1)
             ·exact Kd.R_mono (Kd.R_far (p := ⟨g, 1, none⟩) (Kd.R_far (p := ⟨gs, 1, none⟩) (Kd.R_types HD.out KG8.out (by decide)) (fun k hk => by show k ≠ gs; have := hk.1; omega) _) (fun k hk => hk.2) _) (fun k hk => hk.1)
           ·have HC8 : Aside0 (Kd.C (Kd.int .u8) (W7.drewN nq) (some ⟨ad.block, ad.off + 4, none⟩) ((rest.drop 4).take n).length ((rest.drop 4).take n)) := by
             have h9 := HCT.out
             rw [if_neg hcr] at h9
             have e := add_field ad 0 4 (by omega)
             rw [Nat.zero_add, Addr.add_zero'] at e
             simp only [Option.map_some] at h9
             rw [show 4 * (Kd.int IntKind.u8).sz = 4 from rfl, e] at h9
             exact ⟨Kd.C_drewN h9 nq⟩
            clear hln4 HCT
            go_wp2_with fail
            rw [show (Value.slice (some ⟨ad.block, ad.off + 4, none⟩) n (cr - 4)) = Value.slice (some ⟨ad.block, ad.off + 4, none⟩) ((rest.drop 4).take n).length (cr - 4) by rw [HLN.out]]
            refine (clone_calls (some ⟨ad.block, ad.off + 4, none⟩) (cr - 4) ((rest.drop 4).take n) _ HC8.out (by rw [HLN.out]; omega) (by rw [HLN.out]; omega)).mono ?_
            rintro e_ w2 ⟨vd, rfl, hd, hb2⟩
            obtain ⟨Ad, cd, ed⟩ := Kd.R_slice hd
            subst ed
            obtain ⟨dd, hdd⟩ : ∃ dd, dd = (rest.drop 4).take n := ⟨_, rfl⟩
            rw [← hdd] at HRE hd
            have HD := Aside0.mk (Kd.R_mono (ok' := fun k => gs < k) (Kd.R_lower (Kd.R_bound hd) (show w0.heap.size ≤ (W7.drewN nq).heap.size by have := HW7.out; show w0.heap.size ≤ W7.heap.size; omega)) (fun k hk => by have h1 := hk.2.1; have h2 : (W7.drewN nq).heap.size = gs + 1 := HW7.out; omega))
            have KG8 := Aside0.mk (blk_below (w := W7.drewN nq) KG2.out hb2)
            have KR8 := Aside0.mk (blk_below (w := W7.drewN nq) KR2.out hb2)
            have KQ8 := Aside0.mk (blk_below (w := W7.drewN nq) KQ2.out hb2)
            have KB8 := Aside0.mk (blk_below (w := W7.drewN nq) KB2.out hb2)
            have HB8 := Aside0.mk (Below.trans (pw_below_drewN HB7.out nq) (hb2.mono (pw_below_drewN HB7.out nq).size))
            have HS8 := Aside0.mk (Kd.S_below (Kd.S_drewN HS7.out nq) hb2)
            rw [← hdd]
            clear hd hb2 hdd s0 s1 t0 t1 q0 q1 q2 q3 b1c
            have s1 := blk_cell KG8.out 1
            simp at s1
            have b1c := blk_cell KB8.out 1
            simp at b1c
            have q2 := blk_frozen KG8.out 1
            have q3 := blk_frozen KB8.out 1
            have hnsg : ¬ gs = g := by omega
            have hngs : ¬ g = gs := by omega
            go_wp2
            go_meet
            case rel =>
             refine ⟨at_ + 4 + n, dd, .slice Ad dd.length cd, HRE, ⟨blk_far (blk_set KB8.out 1 _) (by show gs ≠ g; omega) _⟩, ⟨blk_set (blk_far KG8.out (by show g ≠ gs; omega) _) 1 _⟩, ⟨blk_far (blk_far KR8.out (by show gr ≠ gs; omega) _) (by show gr ≠ g; omega) _⟩, ⟨blk_far (blk_far KQ8.out (by show gq ≠ gs; omega) _) hqg _⟩, ⟨below_set (below_set HB8.out hs0) hg⟩, ⟨?_⟩, ⟨?_⟩⟩
             ·exact Kd.S_mono (Kd.S_far (p := ⟨g, 1, none⟩) (Kd.S_far (p := ⟨gs, 1, none⟩) (Kd.S_types HS8.out KG8.out (by decide)) (fun k hk => by show k ≠ gs; have := hk.1; omega) _) (fun k hk => hk.2) _) (fun k hk => hk.1)
             ·exact Kd.R_mono (Kd.R_far (p := ⟨g, 1, none⟩) (Kd.R_far (p := ⟨gs, 1, none⟩) (Kd.R_types HD.out KG8.out (by decide)) (fun k hk => by show k ≠ gs; have := hk.1; omega) _) (fun k hk => hk.2) _) (fun k hk => hk.1)
     case rest =>
      obtain ⟨n2, d, vd, HRE, KB9, KG9, KR9, KQ9, HB9, HS9, HD9⟩ := hcut
      have hRe := HRE.out
      subst hRe
      obtain ⟨Ad, cd, ed⟩ := Kd.R_slice HD9.out
      subst ed
      have s0 := blk_cell KG9.out 0
      have s2 := blk_cell KG9.out 2
      simp at s0 s2
      have q4 := blk_frozen KG9.out 2
      have b0c := blk_cell KB9.out 0
      have b1c := blk_cell KB9.out 1
      simp at b0c b1c
      have t0 := blk_cell KR9.out 0
      have t1 := blk_cell KR9.out 1
      simp at t0 t1
      have s2a : ∀ o : Obj, (wc.alloc o).cell? ⟨g, 2, none⟩ = some (.slice Al3 l.length cl3) := fun o => (World.cell?_alloc_lt _ _ _ (blk_lt KG9.out)).trans s2
      have b0a : ∀ o : Obj, (wc.alloc o).cell? ⟨gs, 0, none⟩ = some (.int .i64 m) := fun o => (World.cell?_alloc_lt _ _ _ (blk_lt KB9.out)).trans b0c
      have b1a : ∀ o : Obj, (wc.alloc o).cell? ⟨gs, 1, none⟩ = some (.slice Ad d.length cd) := fun o => (World.cell?_alloc_lt _ _ _ (blk_lt KB9.out)).trans b1c
      have HOK := Aside0.mk (show ∀ k, gs < k → True ∧ some k ≠ (Value.slice Al3 l.length cl3).ownBlock from fun k hk => ⟨trivial, fun e => absurd (S_ok2 HS9.out k e.symm) (by omega)⟩)
      have HO9 := Aside0.mk (Kd.S_mono (ok' := fun k => True ∧ ¬ gs < k) HS9.out (fun k hk => ⟨trivial, by omega⟩))
      clear HRE
      go_upto_region 31 with (fail)
      go_region_law (refine Kd.S_append_step k131 (w0 := w0) (W := wc.drew) w0.heap.size (by rfl) (.tmp 195) (.tmp 197) 63 131 (.agg #[.int .i64 0, .slice none 0 0]) 32 (by rfl) Try.underlying63 info131 (by rfl) (by decide) (by decide) (.slice Al3 l.length cl3) l ⟨m, d⟩ [.int .i64 m, .slice Ad d.length cd] (fun _ => True) (fun k => gs < k) (by rfl) (by rfl) (k131_mkM _ _ _ _ (Kd.R_drew HD9.out)) HOK.out (fun _ _ => trivial) (Kd.S_drew HO9.out) (below_drew HB9.out) HB9.out.size (by omega) ?_; intro v8 w3 ho hb hg_ hat; obtain ⟨A8, c8, e8⟩ := Kd.S_slice ho; subst e8; have HO3 := Aside0.mk ho; have HB3 := Aside0.mk hb; have HG3 := Aside0.mk hg_; clear ho hb hg_ hat; have i1 := blk_grown (w := wc.drew) KG9.out HG3.out (Kd.S_ne (Kd.S_drew HS9.out) KG9.out (by decide)); have i2 := blk_grown (w := wc.drew) KR9.out HG3.out (Kd.S_ne (Kd.S_drew HS9.out) KR9.out (by decide)); have d3 := blk_cell i1 2; simp at d3; have e3 := blk_frozen i1 2; have I1 := Aside0.mk i1; have I2 := Aside0.mk i2; have I3 := Aside0.mk (blk_grown (w := wc.drew) KQ9.out HG3.out (Kd.S_ne (Kd.S_drew HS9.out) KQ9.out (by decide))); clear i1 i2)
      all_goals
       have hl1 : (l ++ [(⟨m, d⟩ : S131)]).length = l.length + 1 := by simp
       have ho3 := HO3.out
       rw [hl1] at ho3
       have hseg : SegK w0 (w3.setCell ⟨g, 2, none⟩ (.slice A8 (l.length + 1) c8)) g gq A c b n2 (l ++ [⟨m, d⟩]) := ⟨below_set HB3.out hg, _, blk_set I1.out 2 _, Kd.S_set ho3 I1.out (by decide) 2 _, blk_far I3.out hqg _⟩
       have hr9 := blk_far I2.out (p := ⟨g, 2, none⟩) (fun e => hgr e.symm) (.slice A8 (l.length + 1) c8)
       have HSEG := Aside0.mk hseg
       have HR9 := Aside0.mk hr9
       clear hseg hr9 ho3 hl1
       generalize w3.setCell ⟨g, 2, none⟩ (.slice A8 (l.length + 1) c8) = W9 at HSEG HR9 ⊢
       have u0 := blk_cell HR9.out 0
       have u1 := blk_cell HR9.out 1
       simp at u0 u1
       have u2 := blk_frozen HR9.out 0
       have u3 := blk_frozen HR9.out 1
       go_wp2
       obtain ⟨e1_, e2_⟩ := SegK.fin HSEG.out HR9.out hgr hqr hgw (.int .i64 0) (.int .i64 0)
       refine bodyPost_ret (results_list (rs := [.tmp 2, .cell 3 65]) rfl (by simp) (.tmp (.cell gr 65 #[.int .i64 0, .int .i64 0] (0, 0) _ rfl (by exact e2_) Try.underlying65 rfl (by kernel_rfl) .nil))) rfl ?_
       exact ⟨rfl, by first | exact e1_.drew | exact e1_⟩
theorem next_calls (w0 W : World) (g gq : Nat) (A : Option Addr) (c : Nat) (b : List Int) (at_ : Nat) (l : List S131) (h : SegK w0 W g gq A c b at_ l) (hg : w0.heap.size ≤ g) (hqg : gq ≠ g) (hC : Kd.C (Kd.int .u8) w0 A b.length b) (hc : b.length ≤ c) (hat : at_ ≤ b.length) (hlen : b.length ≤ 60000) (hB : ∀ x ∈ b, 0 ≤ x ∧ x ≤ 255) (hl : l.length ≤ 300) :
  Calls Try.prog 133 #[.pointer (some ⟨g, 0, none⟩)] W fun e w' => e = .returned (.tuple #[.bool (nxt b at_ l).1, .agg #[.int .i64 (nxt b at_ l).2.1, .int .i64 (nxt b at_ l).2.2.1]]) ∧ SegK w0 w' g gq A c b (nxt b at_ l).2.2.2.1 (nxt b at_ l).2.2.2.2 := by
 by_cases hE : (¬ (b.drop at_ = [] ∨ b.drop at_ = [255]) ∧ markM (b.drop at_) ≠ 254 ∧ badM (markM (b.drop at_)) l = false ∧ l.length ≠ 300)
 ·by_cases h0 : markM (b.drop at_) = 0
  ·exact next_calls_b1 w0 W g gq A c b at_ l h hg hqg hC hc hat hlen hB hl hE h0
  ·cases hi : isRest (markM (b.drop at_)) with
   | true => exact next_calls_b2 w0 W g gq A c b at_ l h hg hqg hC hc hat hlen hB hl hE ⟨h0, hi⟩
   | false => exact next_calls_b3 w0 W g gq A c b at_ l h hg hqg hC hc hat hlen hB hl hE ⟨h0, hi⟩
 ·exact next_calls_a w0 W g gq A c b at_ l h hg hqg hC hc hat hlen hB hl hE
end Go.Proofs.Ytcjjmfpkhhdmlaa.G
