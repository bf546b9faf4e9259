import Derived.Test.YtilimpjcdeeaiaaProg
import Derived.Below
import Derived.Deep.Draws
import Derived.Deep.AppendLies
import Derived.Maps.AppendAt
import Derived.OwnWalk
import Derived.Laws.BytesArg
import Derived.Laws.MakeOwn
import Derived.Laws.OwnMore
import Derived.Deep.OwnRows
import Derived.Tactics
import Derived.Lib.ConvBytes
import Derived.Laws.Slices
import Derived.WalkKit
import Derived.KernelRfl
import Derived.RowKit3
import Derived.Deep.LoopGhost
import Derived.Deep.QuietTactic
import Derived.BigQuiet
import Derived.WideLaws
import Derived.Deep.DeepCutAuto
import Derived.Deep.CutBlock
import Derived.Deep.RegionHeld3
import Derived.Laws.Rows
import Derived.Lib.AppendStr
import Derived.ArgAppend
import Derived.Laws.IdiomCopy
import Derived.OrdersHeld
import Derived.Laws.BitsLemmas
import Derived.RowKit
import Derived.Test.YtilimpjcdeeaiaaMFnScriptsWWords
import Derived.Test.YtilimpjcdeeaiaaMFnScriptsWLast
import Derived.Test.YtilimpjcdeeaiaaMFnScriptsWTab
import Derived.Test.YtilimpjcdeeaiaaMFnScriptsWFour
import Derived.Test.YtilimpjcdeeaiaaMFnScriptsWQPut
import Derived.Test.YtilimpjcdeeaiaaMFnScriptsWApart
import Derived.Test.YtilimpjcdeeaiaaMFnScriptsWArr
import Derived.Test.YtilimpjcdeeaiaaMFnScriptsWZeros
import Derived.Test.YtilimpjcdeeaiaaMFnScriptsWFoot
import Derived.Test.YtilimpjcdeeaiaaMFnScriptsWKept
import Derived.Test.YtilimpjcdeeaiaaMFnScriptsWShare
import Derived.Test.YtilimpjcdeeaiaaMFnScriptsWN
import Derived.Test.YtilimpjcdeeaiaaMFnScriptsWFootNe
import Derived.Test.YtilimpjcdeeaiaaMFnScriptsWAt
import Derived.Test.YtilimpjcdeeaiaaMFnScriptsWEqStruct
import Derived.Test.YtilimpjcdeeaiaaMFnScriptsWRepsOne
import Derived.Test.YtilimpjcdeeaiaaMFnScriptsWInv
import Derived.Test.YtilimpjcdeeaiaaMFnScriptsWInvWords
import Derived.Test.YtilimpjcdeeaiaaMFnScriptsWGuard
import Derived.Test.YtilimpjcdeeaiaaMFnScriptsWNEv
import Derived.Test.YtilimpjcdeeaiaaMFnScriptsWMore
set_option linter.unusedVariables false
set_option linter.unusedSimpArgs false
namespace Go.Proofs.Ytilimpjcdeeaiaa.G
open Go.RowKit Go.Proofs.YtilimpjcdeeaiaaW.PrintWords Go.Proofs.YtilimpjcdeeaiaaW.PrintLast Go.Proofs.YtilimpjcdeeaiaaW.PrintMore
attribute [local go_sem] max2_int min2_int max_two min_two max_three min_three max_four min_four   -- for this text's walks alone
abbrev zA := @Aside0.mk
abbrev zB := @pw_below_drewN
abbrev zC := @below_alloc
abbrev zD := @blk_alloc
abbrev zE := @below_set
abbrev zF := @below_drew1
abbrev zG := @blk_drewN
abbrev zH := @blk_drew
abbrev zI := @of_decide_eq_true
abbrev zJ := @blk_frozen
abbrev zK := @blk_cell
abbrev zL := @below_size
abbrev zM := @Kd.R_drewN
abbrev zN := @Kd.R_alloc
abbrev zO := @Kd.R_drew
abbrev zP := @Kd.R_mono
abbrev zQ := @List.length_take
abbrev zR := @List.length_drop
abbrev zS := @Option.bind_some
abbrev zT := @decide_eq_true
abbrev zU := @List.map_toArray
abbrev zV := @List.map_cons
abbrev zW := @List.map_nil
abbrev zX := @List.length_append
abbrev zY := @Kd.R_types
abbrev zZ := @KeepBut.set_
abbrev yA := @keep_drewN
abbrev yB := @keep_drew
abbrev yC := @keep_alloc
abbrev yD := @keep_far
abbrev yE := @Kd.S_alloc
abbrev yF := @Kd.S_drewN
abbrev yG := @Kd.S_drew
abbrev yH := @Kd.S_mono
abbrev yI := @Kd.S_far
abbrev yJ := @World.size_alloc
abbrev yK := @Kd.R_reads'
abbrev yL := @Kd.C_drewN
abbrev yM := @Kd.C_drew
abbrev yN := @Kd.C_alloc
def errW : Option Int → Value
 | none => .nilIface
 | some c => .iface 0 (.int .i64 c)
theorem errW_none : errW none = .nilIface := rfl
theorem errW_some (c : Int) : errW (some c) = .iface 0 (.int .i64 c) := rfl
theorem info3 : (Try.prog.info? 3).map (fun i => (i.zero, i.size, i.bytes)) = some (some (.int .i64 0), 1, 8) := by kernel_rfl
theorem info36 : (Try.prog.info? 36).map (fun i => (i.zero, i.size, i.bytes)) = some (some (.slice none 0 0), 1, 24) := by kernel_rfl
theorem info38 : (Try.prog.info? 38).map (fun i => (i.zero, i.size, i.bytes)) = some (some (.agg #[(.slice none 0 0), (.int .i64 0), (.int .i64 0), (.int .i64 0), (.int .i64 0)]), 5, 56) := by kernel_rfl
theorem info102 : (Try.prog.info? 102).map (fun i => (i.zero, i.size, i.bytes)) = some (some (.agg #[(.int .i64 0), (.int .i64 0), (.int .i64 0), (.int .i64 0)]), 4, 32) := by kernel_rfl
-- the values' own types
structure S102 where
 f0 : Int
 f1 : Int
 f2 : Int
 f3 : Int
def z102 : S102 := ⟨(0 : Int), (0 : Int), (0 : Int), (0 : Int)⟩
def k102 : Kd S102 := Kd.iso (Kd.pair (Kd.int .i64) (Kd.pair (Kd.int .i64) (Kd.pair (Kd.int .i64) (Kd.int .i64)))) (fun x : S102 => (x.f0, x.f1, x.f2, x.f3))
theorem k102_open {w : World} {x : S102} {cs : List Value} (h : k102.K w x cs) : cs = [.int .i64 x.f0, .int .i64 x.f1, .int .i64 x.f2, .int .i64 x.f3] := by
 obtain ⟨_, _, rfl, rfl, ⟨_, _, rfl, rfl, ⟨_, _, rfl, rfl, rfl⟩⟩⟩ := h
 exact rfl
theorem k102_openM {w : World} {base : Nat} {ok : Nat → Prop} {x : S102} {cs : List Value} (h : k102.M w base ok x cs) : cs = [.int .i64 x.f0, .int .i64 x.f1, .int .i64 x.f2, .int .i64 x.f3] := by
 obtain ⟨_, _, rfl, rfl, ⟨_, _, rfl, rfl, ⟨_, _, rfl, rfl, rfl⟩⟩⟩ := h
 exact rfl
theorem k102_mkM (w : World) (base : Nat) (ok : Nat → Prop) (x : S102)  : k102.M w base ok x [.int .i64 x.f0, .int .i64 x.f1, .int .i64 x.f2, .int .i64 x.f3] := ⟨[.int .i64 x.f0], [.int .i64 x.f1, .int .i64 x.f2, .int .i64 x.f3], rfl, rfl, ⟨[.int .i64 x.f1], [.int .i64 x.f2, .int .i64 x.f3], rfl, rfl, ⟨[.int .i64 x.f2], [.int .i64 x.f3], rfl, rfl, rfl⟩⟩⟩
def rd_T102 (xs : List S102) (i : Int) : S102 := xs.getD i.toNat z102
theorem at_T102 {w : World} {A : Option Addr} {n : Nat} {xs : List S102} (h : Kd.C k102 w A n xs) (i : Int) (h0 : 0 ≤ i) (h1 : i < n) : ∃ ad , A = some ad ∧ w.cell? (ad.add (i.toNat * 4)) = some (.int .i64 (rd_T102 xs i).f0) ∧ w.cell? ⟨(ad.add (i.toNat * 4)).block, (ad.add (i.toNat * 4)).off + 1, none⟩ = some (.int .i64 (rd_T102 xs i).f1) ∧ w.cell? ⟨(ad.add (i.toNat * 4)).block, (ad.add (i.toNat * 4)).off + 2, none⟩ = some (.int .i64 (rd_T102 xs i).f2) ∧ w.cell? ⟨(ad.add (i.toNat * 4)).block, (ad.add (i.toNat * 4)).off + 3, none⟩ = some (.int .i64 (rd_T102 xs i).f3) := by
 obtain ⟨ad, c, e, _, hK, hc0⟩ := Kd.C_get h z102 i h0 h1
 have hc : ∀ j u, c[j]? = some u → w.cell? (ad.add (i.toNat * 4 + j)) = some u := hc0
 obtain rfl := k102_open hK
 exact ⟨ad, e, hc 0 _ rfl, by rw [← add_field _ _ 1 (by omega)]; exact hc 1 _ rfl, by rw [← add_field _ _ 2 (by omega)]; exact hc 2 _ rfl, by rw [← add_field _ _ 3 (by omega)]; exact hc 3 _ rfl⟩
def rd_L3 (xs : List (List Int)) (i : Int) : (List Int) := xs.getD i.toNat ([] : List Int)
theorem at_L3 {w : World} {A : Option Addr} {n : Nat} {xs : List (List Int)} (h : Kd.C (Kd.slice 3 (Kd.int .i64)) w A n xs) (i : Int) (h0 : 0 ≤ i) (h1 : i < n) : ∃ ad A0 c0, A = some ad ∧ w.cell? (ad.add i.toNat) = some (.slice A0 (rd_L3 xs i).length c0) ∧ (rd_L3 xs i).length ≤ c0 ∧ (Kd.int .i64).C w A0 (rd_L3 xs i).length (rd_L3 xs i) := by
 obtain ⟨ad, c, e, _, hK, hc0⟩ := Kd.C_get h ([] : List Int) i h0 h1
 have hc : ∀ j u, c[j]? = some u → w.cell? (ad.add (i.toNat * 1 + j)) = some u := hc0
 obtain ⟨A0, c0, rfl, l0, g0⟩ := hK
 exact ⟨ad, A0, c0, e, by have hq := hc 0 _ rfl; rwa [Nat.mul_one, Nat.add_zero] at hq, l0, g0⟩
structure S38 where
 f0 : (List Int)
 f1 : Int
 f2 : Int
 f3 : Int
 f4 : Int
def z38 : S38 := ⟨([] : List Int), (0 : Int), (0 : Int), (0 : Int), (0 : Int)⟩
def k38 : Kd S38 := Kd.iso (Kd.pair (Kd.slice 3 (Kd.int .i64)) (Kd.pair (Kd.int .i64) (Kd.pair (Kd.int .i64) (Kd.pair (Kd.int .i64) (Kd.int .i64))))) (fun x : S38 => (x.f0, x.f1, x.f2, x.f3, x.f4))
theorem k38_open {w : World} {x : S38} {cs : List Value} (h : k38.K w x cs) : ∃ A0 c0, cs = [.slice A0 x.f0.length c0, .int .i64 x.f1, .int .i64 x.f2, .int .i64 x.f3, .int .i64 x.f4] ∧ x.f0.length ≤ c0 ∧ (Kd.int .i64).C w A0 x.f0.length x.f0 := by
 obtain ⟨_, _, rfl, ⟨A0, c0, rfl, l0, g0⟩, ⟨_, _, rfl, rfl, ⟨_, _, rfl, rfl, ⟨_, _, rfl, rfl, rfl⟩⟩⟩⟩ := h
 exact ⟨A0, c0, rfl, l0, g0⟩
theorem k38_openM {w : World} {base : Nat} {ok : Nat → Prop} {x : S38} {cs : List Value} (h : k38.M w base ok x cs) : ∃ v0, cs = [v0, .int .i64 x.f1, .int .i64 x.f2, .int .i64 x.f3, .int .i64 x.f4] ∧ (Kd.int .i64).R 3 w base ok v0 x.f0 := by
 obtain ⟨_, _, rfl, ⟨v0, rfl, g0⟩, ⟨_, _, rfl, rfl, ⟨_, _, rfl, rfl, ⟨_, _, rfl, rfl, rfl⟩⟩⟩⟩ := h
 exact ⟨v0, rfl, g0⟩
theorem k38_mk (w : World) (x : S38) {A0 : Option Addr} {c0 : Nat} (l0 : x.f0.length ≤ c0) (g0 : (Kd.int .i64).C w A0 x.f0.length x.f0) : k38.K w x [.slice A0 x.f0.length c0, .int .i64 x.f1, .int .i64 x.f2, .int .i64 x.f3, .int .i64 x.f4] := ⟨[.slice A0 x.f0.length c0], [.int .i64 x.f1, .int .i64 x.f2, .int .i64 x.f3, .int .i64 x.f4], rfl, ⟨A0, c0, rfl, l0, g0⟩, ⟨[.int .i64 x.f1], [.int .i64 x.f2, .int .i64 x.f3, .int .i64 x.f4], rfl, rfl, ⟨[.int .i64 x.f2], [.int .i64 x.f3, .int .i64 x.f4], rfl, rfl, ⟨[.int .i64 x.f3], [.int .i64 x.f4], rfl, rfl, rfl⟩⟩⟩⟩
theorem k38_mkM (w : World) (base : Nat) (ok : Nat → Prop) (x : S38) {v0 : Value} (g0 : (Kd.int .i64).R 3 w base ok v0 x.f0) : k38.M w base ok x [v0, .int .i64 x.f1, .int .i64 x.f2, .int .i64 x.f3, .int .i64 x.f4] := ⟨[v0], [.int .i64 x.f1, .int .i64 x.f2, .int .i64 x.f3, .int .i64 x.f4], rfl, ⟨v0, rfl, g0⟩, ⟨[.int .i64 x.f1], [.int .i64 x.f2, .int .i64 x.f3, .int .i64 x.f4], rfl, rfl, ⟨[.int .i64 x.f2], [.int .i64 x.f3, .int .i64 x.f4], rfl, rfl, ⟨[.int .i64 x.f3], [.int .i64 x.f4], rfl, rfl, rfl⟩⟩⟩⟩
theorem k38_openF {W : World} {ok : Nat → Prop} {x : S38} {cs : List Value} (h : Kd.FK k38 W ok x cs) : ∃ A0 c0, cs = [.slice A0 x.f0.length c0, .int .i64 x.f1, .int .i64 x.f2, .int .i64 x.f3, .int .i64 x.f4] ∧ x.f0.length ≤ c0 ∧ Kd.F (Kd.int .i64) W ok A0 x.f0.length x.f0 := by
 obtain ⟨A0, c0, rfl, l0, _⟩ := k38_open (Kd.FK_now h)
 exact ⟨A0, c0, rfl, l0, (fun W' hW => by obtain ⟨A0_, c0_, he, l0_, g0_⟩ := k38_open (h W' hW); injection (Option.some.inj (show some (Value.slice A0 x.f0.length c0) = some (Value.slice A0_ x.f0.length c0_) from congrArg (fun l => l[0]?) he)) with ha_ _ _; rw [ha_]; exact g0_)⟩
theorem k38_mkF (W : World) (ok : Nat → Prop) (x : S38) {A0 : Option Addr} {c0 : Nat} (l0 : x.f0.length ≤ c0) (g0 : Kd.F (Kd.int .i64) W ok A0 x.f0.length x.f0) : Kd.FK k38 W ok x [.slice A0 x.f0.length c0, .int .i64 x.f1, .int .i64 x.f2, .int .i64 x.f3, .int .i64 x.f4] := fun W2 hW => k38_mk W2 x l0 (g0 W2 hW)
def rd_T38 (xs : List S38) (i : Int) : S38 := xs.getD i.toNat z38
theorem at_T38 {w : World} {A : Option Addr} {n : Nat} {xs : List S38} (h : Kd.C k38 w A n xs) (i : Int) (h0 : 0 ≤ i) (h1 : i < n) : ∃ ad A0 c0, A = some ad ∧ w.cell? (ad.add (i.toNat * 5)) = some (.slice A0 (rd_T38 xs i).f0.length c0) ∧ w.cell? ⟨(ad.add (i.toNat * 5)).block, (ad.add (i.toNat * 5)).off + 1, none⟩ = some (.int .i64 (rd_T38 xs i).f1) ∧ w.cell? ⟨(ad.add (i.toNat * 5)).block, (ad.add (i.toNat * 5)).off + 2, none⟩ = some (.int .i64 (rd_T38 xs i).f2) ∧ w.cell? ⟨(ad.add (i.toNat * 5)).block, (ad.add (i.toNat * 5)).off + 3, none⟩ = some (.int .i64 (rd_T38 xs i).f3) ∧ w.cell? ⟨(ad.add (i.toNat * 5)).block, (ad.add (i.toNat * 5)).off + 4, none⟩ = some (.int .i64 (rd_T38 xs i).f4) ∧ (rd_T38 xs i).f0.length ≤ c0 ∧ (Kd.int .i64).C w A0 (rd_T38 xs i).f0.length (rd_T38 xs i).f0 := by
 obtain ⟨ad, c, e, _, hK, hc0⟩ := Kd.C_get h z38 i h0 h1
 have hc : ∀ j u, c[j]? = some u → w.cell? (ad.add (i.toNat * 5 + j)) = some u := hc0
 obtain ⟨A0, c0, rfl, l0, g0⟩ := k38_open hK
 exact ⟨ad, A0, c0, e, hc 0 _ rfl, by rw [← add_field _ _ 1 (by omega)]; exact hc 1 _ rfl, by rw [← add_field _ _ 2 (by omega)]; exact hc 2 _ rfl, by rw [← add_field _ _ 3 (by omega)]; exact hc 3 _ rfl, by rw [← add_field _ _ 4 (by omega)]; exact hc 4 _ rfl, l0, g0⟩
structure S26 where
 f0 : Int
 f1 : Int
 f2 : Int
 f3 : Int
 f4 : (List S102)
structure S153 where
 f0 : Int
 f1 : Int
 f2 : Int
 f3 : Int
structure S177 where
 f0 : Int
 f1 : (List Int)
structure S74 where
 f0 : Int
 f1 : Int
structure S76 where
 f0 : (List Int)
 f1 : Int
 f2 : Bool
 f3 : S74
structure S82 where
 f0 : Int
 f1 : Int
structure S84 where
 f0 : (List Int)
 f1 : Int
 f2 : Bool
 f3 : S82
end Go.Proofs.Ytilimpjcdeeaiaa.G


namespace Go.Proofs.Ytilimpjcdeeaiaa.G
open Go.RowKit Go.Proofs.YtilimpjcdeeaiaaW.PrintWords Go.Proofs.YtilimpjcdeeaiaaW.PrintLast Go.Proofs.YtilimpjcdeeaiaaW.PrintMore
attribute [local go_sem] max2_int min2_int max_two min_two max_three min_three max_four min_four   -- for this text's walks alone
theorem Ev.ip {α : Type} {c : Prop} [Decidable c] {g f : Nat → Option α} {r : α} (hc : c) (h : Ev g r) : Ev (fun n => if c then g n else f n) r := by
 obtain ⟨K, h⟩ := h
 exact ⟨K, fun n hn => by show (if c then g n else f n) = some r; rw [if_pos hc]; exact h n hn⟩
theorem Ev.ng {α : Type} {c : Prop} [Decidable c] {g f : Nat → Option α} {r : α} (hc : ¬ c) (h : Ev f r) : Ev (fun n => if c then g n else f n) r := by
 obtain ⟨K, h⟩ := h
 exact ⟨K, fun n hn => by show (if c then g n else f n) = some r; rw [if_neg hc]; exact h n hn⟩
theorem Ev.c {α : Type} {x : Option α} {r : α} (h : x = some r) : Ev (fun _ => x) r := ⟨0, fun _ _ => h⟩
theorem Ev.eq {α : Type} {g : Nat → Option α} {r r' : α} (h : Ev g r) (e : r = r') : Ev g r' := e ▸ h
theorem rd_nat (l : List Int) (i : Nat) (h : i < l.length) : rd l (i : Int) = l[i] := by simp [rd, h]
theorem wrap_succ (i : Nat) (h : i < 9223372036854775807) : wrap64 ((i : Int) + 1) = ((i + 1 : Nat) : Int) := by unfold wrap64; omega
theorem wrap_in (x : Int) (h1 : -9223372036854775808 ≤ x) (h2 : x ≤ 9223372036854775807) : wrap64 x = x := by unfold wrap64; omega
/-- all numbers lie between two others -/
def allW (lo hi : Int) (l : List Int) : Bool := l.all fun x => decide (lo ≤ x) && decide (x ≤ hi)
end Go.Proofs.Ytilimpjcdeeaiaa.G


namespace Go.Proofs.Ytilimpjcdeeaiaa.G
open Go.RowKit Go.Proofs.YtilimpjcdeeaiaaW.PrintWords Go.Proofs.YtilimpjcdeeaiaaW.PrintLast Go.Proofs.YtilimpjcdeeaiaaW.PrintMore
attribute [local go_sem] max2_int min2_int max_two min_two max_three min_three max_four min_four   -- for this text's walks alone
def laws_sameInts.l0 : Nat → List Int → List Int → Int → Option (Bool)
 | 0, _, _, _ => none
 | k + 1, x0, x1, x5 => if x5 < (x0.length : Int) then (if 0 ≤ x5 then (if x5 < (x1.length : Int) then (if (rd x0 x5) = (rd x1 x5) then (laws_sameInts.l0 k x0 x1 (wrap64 (x5 + 1))) else (some false)) else (none)) else (none)) else (some true)
def laws_sameInts.f (k : Nat) (l0 : List Int) (l1 : List Int) : Option (Bool) := if (l0.length : Int) = (l1.length : Int) then (laws_sameInts.l0 k l0 l1 0) else (some false)
set_option maxHeartbeats 8000000 in
set_option maxRecDepth 100000 in
theorem laws_sameInts.calls (k : Nat) (A0 : Option Addr) (c0 : Nat) (l0 : List Int) (A1 : Option Addr) (c1 : Nat) (l1 : List Int) (r : Bool) (w : World) (hr0 : Kd.C (Kd.int .i64) w A0 l0.length l0) (hc0 : l0.length ≤ c0) (hr1 : Kd.C (Kd.int .i64) w A1 l1.length l1) (hc1 : l1.length ≤ c1) (h : laws_sameInts.f k l0 l1 = some r) :
  Calls Try.prog 23 #[.slice A0 l0.length c0, .slice A1 l1.length c1] w fun e w' => e = .returned (.bool r) ∧ Drawn0 w w' := by
 have HR0 := zA hr0
 have HC0 := zA hc0
 clear hr0 hc0
 have HR1 := zA hr1
 have HC1 := zA hc1
 clear hr1 hc1
 have H : (if (l0.length : Int) = (l1.length : Int) then (laws_sameInts.l0 k l0 l1 0) else (some false)) = some r := h
 clear h
 by_cases c3 : (l0.length : Int) = (l1.length : Int)
 ·rw [if_pos c3] at H
  have c3b0 : ((l0.length : Int) == (l1.length : Int)) = true := beq_iff_eq.mpr c3
  have c3b1 : ((l0.length : Int) != (l1.length : Int)) = false := bne_eq_false_iff_eq.mpr c3
  have c3b2 : (l0.length == l1.length) = true := by first | simpa using c3 | (simp at c3 ⊢; omega)
  clear c3
  have H' := zA H
  clear H
  go_enter Try.func23, Try.ntmps23
  go_wp2
  repeat (go_quiet (fail); try go_wp2)
  go_loopg [5] k (fun kq v5 w' => ∃ (x5_1 : Int), v5 = .int .i64 x5_1 ∧ Aside0 (laws_sameInts.l0 kq l0 l1 x5_1 = some r) ∧ Aside0 (kq ≤ k) ∧ Drawn0 w w')
  case atStart => exact ⟨(0), (by first | rfl | (simp; done) | (simp [*]; done)), H', ⟨Nat.le_refl _⟩, by repeat (first | exact Drawn0.refl _ | apply Drawn0.step)⟩
  case round =>
   clear H'
   try clear c1
   try clear c2
   try clear p2
   try clear c3
   try clear c3b0
   try clear c3b1
   try clear c3b2
   obtain ⟨x5_1, rfl, HA, HK1, ⟨m1, rfl⟩⟩ := hrel
   cases gk with
   | zero => exact absurd HA.out (by simp [laws_sameInts.l0])
   | succ k1 =>
    have H := HA.out
    clear HA
    simp only [laws_sameInts.l0] at H
    by_cases c4 : x5_1 < (l0.length : Int)
    ·rw [if_pos c4] at H
     have c4b0 : decide (x5_1 < (l0.length : Int)) = true := zT c4
     clear c4
     by_cases c5 : 0 ≤ x5_1
     ·rw [if_pos c5] at H
      have c5b0 : decide (0 ≤ x5_1) = true := zT c5
      clear c5
      by_cases c6 : x5_1 < (l1.length : Int)
      ·rw [if_pos c6] at H
       have c6b0 : decide (x5_1 < (l1.length : Int)) = true := zT c6
       clear c6
       by_cases c7 : (rd l0 x5_1) = (rd l1 x5_1)
       ·rw [if_pos c7] at H
        have c7b0 : ((rd l0 x5_1) == (rd l1 x5_1)) = true := beq_iff_eq.mpr c7
        have c7b1 : ((rd l0 x5_1) != (rd l1 x5_1)) = false := bne_eq_false_iff_eq.mpr c7
        clear c7
        have H' := zA H
        clear H
        have p233 : 0 ≤ (x5_1 : Int) := zI (by first | (with_reducible assumption) | assumption)
        have q233 : x5_1 < (l0.length : Int) := zI (by first | (with_reducible assumption) | assumption)
        obtain ⟨ad233, e233, hx233_0⟩ := Kd.at_int HR0.out x5_1 p233 q233
        cases e233
        replace p233 := eq_true p233
        replace q233 := eq_true q233
        have p234 : 0 ≤ (x5_1 : Int) := zI (by first | (with_reducible assumption) | assumption)
        have q234 : x5_1 < (l1.length : Int) := zI (by first | (with_reducible assumption) | assumption)
        obtain ⟨ad234, e234, hx234_0⟩ := Kd.at_int HR1.out x5_1 p234 q234
        cases e234
        replace p234 := eq_true p234
        replace q234 := eq_true q234
        go_wp2
        repeat (go_quiet (fail); try go_wp2)
        go_roundg k1
        case measure => have := HK1.out; omega
        case rel => exact ⟨(wrap64 (x5_1 + 1)), (by first | rfl | (simp; done) | (simp [*]; done)), H', ⟨by have := HK1.out; omega⟩, by repeat (first | exact Drawn0.refl _ | apply Drawn0.step)⟩
       ·rw [if_neg c7] at H
        have c7b0 : ((rd l0 x5_1) == (rd l1 x5_1)) = false := beq_eq_false_iff_ne.mpr c7
        have c7b1 : ((rd l0 x5_1) != (rd l1 x5_1)) = true := bne_iff_ne.mpr c7
        obtain rfl := Option.some.inj H
        have p233 : 0 ≤ (x5_1 : Int) := zI (by first | (with_reducible assumption) | assumption)
        have q233 : x5_1 < (l0.length : Int) := zI (by first | (with_reducible assumption) | assumption)
        obtain ⟨ad233, e233, hx233_0⟩ := Kd.at_int HR0.out x5_1 p233 q233
        cases e233
        replace p233 := eq_true p233
        replace q233 := eq_true q233
        have p234 : 0 ≤ (x5_1 : Int) := zI (by first | (with_reducible assumption) | assumption)
        have q234 : x5_1 < (l1.length : Int) := zI (by first | (with_reducible assumption) | assumption)
        obtain ⟨ad234, e234, hx234_0⟩ := Kd.at_int HR1.out x5_1 p234 q234
        cases e234
        replace p234 := eq_true p234
        replace q234 := eq_true q234
        go_wp2
        repeat (go_quiet (fail); try go_wp2)
        go_ret
        exact ⟨by first | rfl | (simp; done) | (simp [*]; done), by repeat (first | exact Drawn0.refl _ | apply Drawn0.step)⟩
      ·rw [if_neg c6] at H
       exact absurd H (by simp)
     ·rw [if_neg c5] at H
      exact absurd H (by simp)
    ·rw [if_neg c4] at H
     have c4b0 : decide (x5_1 < (l0.length : Int)) = false := decide_eq_false c4
     clear c4
     obtain rfl := Option.some.inj H
     go_wp2
     repeat (go_quiet (fail); try go_wp2)
     go_ret
     exact ⟨by first | rfl | (simp; done) | (simp [*]; done), by repeat (first | exact Drawn0.refl _ | apply Drawn0.step)⟩
 ·rw [if_neg c3] at H
  have c3b0 : ((l0.length : Int) == (l1.length : Int)) = false := beq_eq_false_iff_ne.mpr c3
  have c3b1 : ((l0.length : Int) != (l1.length : Int)) = true := bne_iff_ne.mpr c3
  have c3b2 : (l0.length == l1.length) = false := by first | simpa using c3 | (simp at c3 ⊢; omega)
  obtain rfl := Option.some.inj H
  go_enter Try.func23, Try.ntmps23
  go_wp2
  repeat (go_quiet (fail); try go_wp2)
  go_ret
  exact ⟨by first | rfl | (simp; done) | (simp [*]; done), by repeat (first | exact Drawn0.refl _ | apply Drawn0.step)⟩
theorem laws_sameInts.l0_ev (a : List Int) (ha : a.length ≤ 281474976710656) : ∀ (d i : Nat), i + d = a.length → Ev (fun k => laws_sameInts.l0 k a a (i : Int)) true := by
 intro d
 induction d with
 | zero =>
  intro i hi
  exact Ev.step (fun _ => by rw [laws_sameInts.l0]) (Ev.ng (by omega) (Ev.now _))
 | succ d ih =>
  intro i hi
  refine Ev.step (fun _ => by rw [laws_sameInts.l0]) (Ev.ip (by omega) (Ev.ip (by omega) (Ev.ip (by omega) (Ev.ip (by rfl) ?_))))
  rw [wrap_succ i (by omega)]
  exact ih (i + 1) (by omega)
theorem laws_sameInts.same (a : List Int) (ha : a.length ≤ 281474976710656) : Ev (fun k => laws_sameInts.f k a a) true := Ev.ip rfl (laws_sameInts.l0_ev a ha a.length 0 (Nat.zero_add _))
end Go.Proofs.Ytilimpjcdeeaiaa.G


namespace Go.Proofs.Ytilimpjcdeeaiaa.G
open Go.RowKit Go.Proofs.YtilimpjcdeeaiaaW.PrintWords Go.Proofs.YtilimpjcdeeaiaaW.PrintLast Go.Proofs.YtilimpjcdeeaiaaW.PrintMore
attribute [local go_sem] max2_int min2_int max_two min_two max_three min_three max_four min_four   -- for this text's walks alone
def laws_sameScan.f (k : Nat) (l0_0 : List Int) (a0_1 : Int) (a0_2 : Int) (a0_3 : Int) (a0_4 : Int) (l1_0 : List Int) (a1_1 : Int) (a1_2 : Int) (a1_3 : Int) (a1_4 : Int) : Option (Bool) := (laws_sameInts.f k l0_0 l1_0).bind fun t237 => (if t237 = true then (if a0_1 = a1_1 then (if a0_2 = a1_2 then (if a0_3 = a1_3 then (some (a0_4 == a1_4)) else (some false)) else (some false)) else (some false)) else (some false))
set_option maxHeartbeats 8000000 in
set_option maxRecDepth 100000 in
theorem laws_sameScan.calls (k : Nat) (A0_0 : Option Addr) (c0_0 : Nat) (l0_0 : List Int) (a0_1 : Int) (a0_2 : Int) (a0_3 : Int) (a0_4 : Int) (A1_0 : Option Addr) (c1_0 : Nat) (l1_0 : List Int) (a1_1 : Int) (a1_2 : Int) (a1_3 : Int) (a1_4 : Int) (r : Bool) (w : World) (hr0_0 : Kd.C (Kd.int .i64) w A0_0 l0_0.length l0_0) (hc0_0 : l0_0.length ≤ c0_0) (hr1_0 : Kd.C (Kd.int .i64) w A1_0 l1_0.length l1_0) (hc1_0 : l1_0.length ≤ c1_0) (h : laws_sameScan.f k l0_0 a0_1 a0_2 a0_3 a0_4 l1_0 a1_1 a1_2 a1_3 a1_4 = some r) :
  Calls Try.prog 57 #[.agg #[.slice A0_0 l0_0.length c0_0, .int .i64 a0_1, .int .i64 a0_2, .int .i64 a0_3, .int .i64 a0_4], .agg #[.slice A1_0 l1_0.length c1_0, .int .i64 a1_1, .int .i64 a1_2, .int .i64 a1_3, .int .i64 a1_4]] w fun e w' => e = .returned (.bool r) ∧ Below w.heap.size w w' := by
 have hu38 := Try.underlying38
 have HR0_0 := zA hr0_0
 have HC0_0 := zA hc0_0
 clear hr0_0 hc0_0
 have HR1_0 := zA hr1_0
 have HC1_0 := zA hc1_0
 clear hr1_0 hc1_0
 have HB := zA (Below.refl w.heap.size w)
 have H : ((laws_sameInts.f k l0_0 l1_0).bind fun t237 => (if t237 = true then (if a0_1 = a1_1 then (if a0_2 = a1_2 then (if a0_3 = a1_3 then (some (a0_4 == a1_4)) else (some false)) else (some false)) else (some false)) else (some false))) = some r := h
 clear h
 replace H := Option.bind_eq_some_iff.mp H
 obtain ⟨t237, A30, H⟩ := H
 replace H : (if t237 = true then (if a0_1 = a1_1 then (if a0_2 = a1_2 then (if a0_3 = a1_3 then (some (a0_4 == a1_4)) else (some false)) else (some false)) else (some false)) else (some false)) = some r := H
 have A3 := zA A30
 clear A30
 by_cases c4 : t237 = true
 ·subst c4
  have H1 : (if a0_1 = a1_1 then (if a0_2 = a1_2 then (if a0_3 = a1_3 then (some (a0_4 == a1_4)) else (some false)) else (some false)) else (some false)) = some r := by rw [if_pos rfl] at H; exact H
  clear H
  have H := H1
  clear H1
  by_cases c5 : a0_1 = a1_1
  ·rw [if_pos c5] at H
   have c5b0 : (a0_1 == a1_1) = true := beq_iff_eq.mpr c5
   have c5b1 : (a0_1 != a1_1) = false := bne_eq_false_iff_eq.mpr c5
   clear c5
   by_cases c6 : a0_2 = a1_2
   ·rw [if_pos c6] at H
    have c6b0 : (a0_2 == a1_2) = true := beq_iff_eq.mpr c6
    have c6b1 : (a0_2 != a1_2) = false := bne_eq_false_iff_eq.mpr c6
    clear c6
    by_cases c7 : a0_3 = a1_3
    ·rw [if_pos c7] at H
     have c7b0 : (a0_3 == a1_3) = true := beq_iff_eq.mpr c7
     have c7b1 : (a0_3 != a1_3) = false := bne_eq_false_iff_eq.mpr c7
     clear c7
     obtain rfl := Option.some.inj H
     go_enter Try.func57, Try.ntmps57
     go_wp2_with (first | ((with_reducible refine gate_dst (N := 2) rfl ?_); refine box_event ?hg (N := 2) ?hd (cs := #[.slice A0_0 l0_0.length c0_0, .int .i64 a0_1, .int .i64 a0_2, .int .i64 a0_3, .int .i64 a0_4]) (t := 38) ?hr ?_; (case hd => rfl); (case hg => rfl); (case hr => first | (go_simp; done) | (go_simp; rfl)); intro gb235 hg w8 hbox hb; have n0_ := zA (below_step (by repeat (first | (with_reducible first | exact HB.out | apply zC | apply zB | apply zF) | exact HB.out)) hb); have n1_ := zA (hbox); have n2_ := zA ((by rw [hg]; exact (zL (by repeat (first | (with_reducible first | exact HB.out | apply zC | apply zB | apply zF) | exact HB.out))) : w.heap.size ≤ gb235)); have n3_ := zA ((by rw [hg]; exact (zL (by repeat (first | (with_reducible first | exact HB.out | apply zC | apply zB | apply zF) | exact HB.out))) : w.heap.size ≤ gb235)); clear HB; have HB := n0_; have BK235 := n1_; have GW235 := n2_; have GE235 := n3_; clear n0_ n1_ n2_ n3_; clear hb hbox hg) | ((with_reducible refine gate_dst (N := 3) rfl ?_); refine box_event ?hg (N := 3) ?hd (cs := #[.slice A1_0 l1_0.length c1_0, .int .i64 a1_1, .int .i64 a1_2, .int .i64 a1_3, .int .i64 a1_4]) (t := 38) ?hr ?_; (case hd => rfl); (case hg => rfl); (case hr => first | (go_simp; done) | (go_simp; rfl)); intro gb236 hg w9 hbox hb; have n0_ := zA (blk_below (g := gb235) (o := .cells #[.slice A0_0 l0_0.length c0_0, .int .i64 a0_1, .int .i64 a0_2, .int .i64 a0_3, .int .i64 a0_4] 38 (0, 0)) (by (with_reducible repeat (first | refine zG ?_ _ | refine zH ?_ | refine zD ?_ _)); exact BK235.out) hb); have n1_ := zA (below_step (by repeat (first | (with_reducible first | exact HB.out | apply zC | apply zB | apply zF | refine zE ?_ GE235.out) | exact HB.out)) hb); have n2_ := zA (hbox); have n3_ := zA ((by rw [hg]; exact (zL (by repeat (first | (with_reducible first | exact HB.out | apply zC | apply zB | apply zF | refine zE ?_ GE235.out) | exact HB.out))) : w.heap.size ≤ gb236)); have n4_ := zA ((by rw [hg]; exact (zL (by repeat (first | (with_reducible first | exact HB.out | apply zC | apply zB | apply zF | refine zE ?_ GE235.out) | exact HB.out))) : w.heap.size ≤ gb236)); have n5_ := zA ((by rw [hg]; exact Nat.ne_of_lt (blk_lt (g := gb235) (o := .cells #[.slice A0_0 l0_0.length c0_0, .int .i64 a0_1, .int .i64 a0_2, .int .i64 a0_3, .int .i64 a0_4] 38 (0, 0)) (by (with_reducible repeat (first | refine zG ?_ _ | refine zH ?_ | refine zD ?_ _)); exact BK235.out)) : gb235 ≠ gb236)); have n6_ := zA ((by rw [hg]; exact Nat.ne_of_gt (blk_lt (g := gb235) (o := .cells #[.slice A0_0 l0_0.length c0_0, .int .i64 a0_1, .int .i64 a0_2, .int .i64 a0_3, .int .i64 a0_4] 38 (0, 0)) (by (with_reducible repeat (first | refine zG ?_ _ | refine zH ?_ | refine zD ?_ _)); exact BK235.out)) : gb236 ≠ gb235)); clear BK235; clear HB; have BK235 := n0_; have HB := n1_; have BK236 := n2_; have GW236 := n3_; have GE236 := n4_; have NB235_236 := n5_; have NB236_235 := n6_; clear n0_ n1_ n2_ n3_ n4_ n5_ n6_; clear hb hbox hg; have hnb10 := NB235_236.out; have hnc10 := NB236_235.out; have hcz11_0 : w9.cell? ⟨gb235, 0, none⟩ = some (.slice A0_0 l0_0.length c0_0) := (zK BK235.out 0).trans rfl; have hcz11_1 : w9.cell? ⟨gb235, 1, none⟩ = some (.int .i64 a0_1) := (zK BK235.out 1).trans rfl; have hcz11_2 : w9.cell? ⟨gb235, 2, none⟩ = some (.int .i64 a0_2) := (zK BK235.out 2).trans rfl; have hcz11_3 : w9.cell? ⟨gb235, 3, none⟩ = some (.int .i64 a0_3) := (zK BK235.out 3).trans rfl; have hcz11_4 : w9.cell? ⟨gb235, 4, none⟩ = some (.int .i64 a0_4) := (zK BK235.out 4).trans rfl; have hfz11_0 := zJ BK235.out 0; have hfz11_1 := zJ BK235.out 1; have hfz11_2 := zJ BK235.out 2; have hfz11_3 := zJ BK235.out 3; have hfz11_4 := zJ BK235.out 4; have hcz12_0 : w9.cell? ⟨gb236, 0, none⟩ = some (.slice A1_0 l1_0.length c1_0) := (zK BK236.out 0).trans rfl; have hcz12_1 : w9.cell? ⟨gb236, 1, none⟩ = some (.int .i64 a1_1) := (zK BK236.out 1).trans rfl; have hcz12_2 : w9.cell? ⟨gb236, 2, none⟩ = some (.int .i64 a1_2) := (zK BK236.out 2).trans rfl; have hcz12_3 : w9.cell? ⟨gb236, 3, none⟩ = some (.int .i64 a1_3) := (zK BK236.out 3).trans rfl; have hcz12_4 : w9.cell? ⟨gb236, 4, none⟩ = some (.int .i64 a1_4) := (zK BK236.out 4).trans rfl; have hfz12_0 := zJ BK236.out 0; have hfz12_1 := zJ BK236.out 1; have hfz12_2 := zJ BK236.out 2; have hfz12_3 := zJ BK236.out 3; have hfz12_4 := zJ BK236.out 4) | ((with_reducible refine gate_callee (f := 23) rfl ?_); refine goesL_ (some 9) rfl rfl Try.func23 (by kernel_rfl) rfl #[.slice A0_0 l0_0.length c0_0, .slice A1_0 l1_0.length c1_0] rfl (by (try simp only [zU, zV, zW]); first | done | rfl | (simp only [zR, zQ]; rfl)) ?_; (with_reducible refine (laws_sameInts.calls k _ _ l0_0 _ _ l1_0 true _ ?side1 ?side2 ?side3 ?side4 A3.out).mono ?_); (case side1 => repeat (first | exact (Kd.C_below HR0_0.out HB.out) | (with_reducible refine yN ?_ _) | (with_reducible refine yL ?_ _) | (with_reducible refine yM ?_))); (case side2 => exact HC0_0.out); (case side3 => repeat (first | exact (Kd.C_below HR1_0.out HB.out) | (with_reducible refine yN ?_ _) | (with_reducible refine yL ?_ _) | (with_reducible refine yM ?_))); (case side4 => exact HC1_0.out); rintro e w' ⟨rfl, ⟨nd, rfl⟩⟩; refine ⟨_, rfl, ?_⟩))
     go_ret
     exact ⟨by first | rfl | (simp [errW_none, errW_some] <;> rfl) | (simp [*, errW_none, errW_some] <;> rfl), by repeat (first | (with_reducible first | exact HB.out | apply zC | apply zB | apply zF | refine zE ?_ GE235.out | refine zE ?_ GE236.out) | exact HB.out)⟩
    ·rw [if_neg c7] at H
     have c7b0 : (a0_3 == a1_3) = false := beq_eq_false_iff_ne.mpr c7
     have c7b1 : (a0_3 != a1_3) = true := bne_iff_ne.mpr c7
     obtain rfl := Option.some.inj H
     go_enter Try.func57, Try.ntmps57
     go_wp2_with (first | ((with_reducible refine gate_dst (N := 2) rfl ?_); refine box_event ?hg (N := 2) ?hd (cs := #[.slice A0_0 l0_0.length c0_0, .int .i64 a0_1, .int .i64 a0_2, .int .i64 a0_3, .int .i64 a0_4]) (t := 38) ?hr ?_; (case hd => rfl); (case hg => rfl); (case hr => first | (go_simp; done) | (go_simp; rfl)); intro gb235 hg w13 hbox hb; have n0_ := zA (below_step (by repeat (first | (with_reducible first | exact HB.out | apply zC | apply zB | apply zF) | exact HB.out)) hb); have n1_ := zA (hbox); have n2_ := zA ((by rw [hg]; exact (zL (by repeat (first | (with_reducible first | exact HB.out | apply zC | apply zB | apply zF) | exact HB.out))) : w.heap.size ≤ gb235)); have n3_ := zA ((by rw [hg]; exact (zL (by repeat (first | (with_reducible first | exact HB.out | apply zC | apply zB | apply zF) | exact HB.out))) : w.heap.size ≤ gb235)); clear HB; have HB := n0_; have BK235 := n1_; have GW235 := n2_; have GE235 := n3_; clear n0_ n1_ n2_ n3_; clear hb hbox hg) | ((with_reducible refine gate_dst (N := 3) rfl ?_); refine box_event ?hg (N := 3) ?hd (cs := #[.slice A1_0 l1_0.length c1_0, .int .i64 a1_1, .int .i64 a1_2, .int .i64 a1_3, .int .i64 a1_4]) (t := 38) ?hr ?_; (case hd => rfl); (case hg => rfl); (case hr => first | (go_simp; done) | (go_simp; rfl)); intro gb236 hg w14 hbox hb; have n0_ := zA (blk_below (g := gb235) (o := .cells #[.slice A0_0 l0_0.length c0_0, .int .i64 a0_1, .int .i64 a0_2, .int .i64 a0_3, .int .i64 a0_4] 38 (0, 0)) (by (with_reducible repeat (first | refine zG ?_ _ | refine zH ?_ | refine zD ?_ _)); exact BK235.out) hb); have n1_ := zA (below_step (by repeat (first | (with_reducible first | exact HB.out | apply zC | apply zB | apply zF | refine zE ?_ GE235.out) | exact HB.out)) hb); have n2_ := zA (hbox); have n3_ := zA ((by rw [hg]; exact (zL (by repeat (first | (with_reducible first | exact HB.out | apply zC | apply zB | apply zF | refine zE ?_ GE235.out) | exact HB.out))) : w.heap.size ≤ gb236)); have n4_ := zA ((by rw [hg]; exact (zL (by repeat (first | (with_reducible first | exact HB.out | apply zC | apply zB | apply zF | refine zE ?_ GE235.out) | exact HB.out))) : w.heap.size ≤ gb236)); have n5_ := zA ((by rw [hg]; exact Nat.ne_of_lt (blk_lt (g := gb235) (o := .cells #[.slice A0_0 l0_0.length c0_0, .int .i64 a0_1, .int .i64 a0_2, .int .i64 a0_3, .int .i64 a0_4] 38 (0, 0)) (by (with_reducible repeat (first | refine zG ?_ _ | refine zH ?_ | refine zD ?_ _)); exact BK235.out)) : gb235 ≠ gb236)); have n6_ := zA ((by rw [hg]; exact Nat.ne_of_gt (blk_lt (g := gb235) (o := .cells #[.slice A0_0 l0_0.length c0_0, .int .i64 a0_1, .int .i64 a0_2, .int .i64 a0_3, .int .i64 a0_4] 38 (0, 0)) (by (with_reducible repeat (first | refine zG ?_ _ | refine zH ?_ | refine zD ?_ _)); exact BK235.out)) : gb236 ≠ gb235)); clear BK235; clear HB; have BK235 := n0_; have HB := n1_; have BK236 := n2_; have GW236 := n3_; have GE236 := n4_; have NB235_236 := n5_; have NB236_235 := n6_; clear n0_ n1_ n2_ n3_ n4_ n5_ n6_; clear hb hbox hg; have hnb15 := NB235_236.out; have hnc15 := NB236_235.out; have hcz16_0 : w14.cell? ⟨gb235, 0, none⟩ = some (.slice A0_0 l0_0.length c0_0) := (zK BK235.out 0).trans rfl; have hcz16_1 : w14.cell? ⟨gb235, 1, none⟩ = some (.int .i64 a0_1) := (zK BK235.out 1).trans rfl; have hcz16_2 : w14.cell? ⟨gb235, 2, none⟩ = some (.int .i64 a0_2) := (zK BK235.out 2).trans rfl; have hcz16_3 : w14.cell? ⟨gb235, 3, none⟩ = some (.int .i64 a0_3) := (zK BK235.out 3).trans rfl; have hcz16_4 : w14.cell? ⟨gb235, 4, none⟩ = some (.int .i64 a0_4) := (zK BK235.out 4).trans rfl; have hfz16_0 := zJ BK235.out 0; have hfz16_1 := zJ BK235.out 1; have hfz16_2 := zJ BK235.out 2; have hfz16_3 := zJ BK235.out 3; have hfz16_4 := zJ BK235.out 4; have hcz17_0 : w14.cell? ⟨gb236, 0, none⟩ = some (.slice A1_0 l1_0.length c1_0) := (zK BK236.out 0).trans rfl; have hcz17_1 : w14.cell? ⟨gb236, 1, none⟩ = some (.int .i64 a1_1) := (zK BK236.out 1).trans rfl; have hcz17_2 : w14.cell? ⟨gb236, 2, none⟩ = some (.int .i64 a1_2) := (zK BK236.out 2).trans rfl; have hcz17_3 : w14.cell? ⟨gb236, 3, none⟩ = some (.int .i64 a1_3) := (zK BK236.out 3).trans rfl; have hcz17_4 : w14.cell? ⟨gb236, 4, none⟩ = some (.int .i64 a1_4) := (zK BK236.out 4).trans rfl; have hfz17_0 := zJ BK236.out 0; have hfz17_1 := zJ BK236.out 1; have hfz17_2 := zJ BK236.out 2; have hfz17_3 := zJ BK236.out 3; have hfz17_4 := zJ BK236.out 4) | ((with_reducible refine gate_callee (f := 23) rfl ?_); refine goesL_ (some 9) rfl rfl Try.func23 (by kernel_rfl) rfl #[.slice A0_0 l0_0.length c0_0, .slice A1_0 l1_0.length c1_0] rfl (by (try simp only [zU, zV, zW]); first | done | rfl | (simp only [zR, zQ]; rfl)) ?_; (with_reducible refine (laws_sameInts.calls k _ _ l0_0 _ _ l1_0 true _ ?side1 ?side2 ?side3 ?side4 A3.out).mono ?_); (case side1 => repeat (first | exact (Kd.C_below HR0_0.out HB.out) | (with_reducible refine yN ?_ _) | (with_reducible refine yL ?_ _) | (with_reducible refine yM ?_))); (case side2 => exact HC0_0.out); (case side3 => repeat (first | exact (Kd.C_below HR1_0.out HB.out) | (with_reducible refine yN ?_ _) | (with_reducible refine yL ?_ _) | (with_reducible refine yM ?_))); (case side4 => exact HC1_0.out); rintro e w' ⟨rfl, ⟨nd, rfl⟩⟩; refine ⟨_, rfl, ?_⟩))
     go_ret
     exact ⟨by first | rfl | (simp [errW_none, errW_some] <;> rfl) | (simp [*, errW_none, errW_some] <;> rfl), by repeat (first | (with_reducible first | exact HB.out | apply zC | apply zB | apply zF | refine zE ?_ GE235.out | refine zE ?_ GE236.out) | exact HB.out)⟩
   ·rw [if_neg c6] at H
    have c6b0 : (a0_2 == a1_2) = false := beq_eq_false_iff_ne.mpr c6
    have c6b1 : (a0_2 != a1_2) = true := bne_iff_ne.mpr c6
    obtain rfl := Option.some.inj H
    go_enter Try.func57, Try.ntmps57
    go_wp2_with (first | ((with_reducible refine gate_dst (N := 2) rfl ?_); refine box_event ?hg (N := 2) ?hd (cs := #[.slice A0_0 l0_0.length c0_0, .int .i64 a0_1, .int .i64 a0_2, .int .i64 a0_3, .int .i64 a0_4]) (t := 38) ?hr ?_; (case hd => rfl); (case hg => rfl); (case hr => first | (go_simp; done) | (go_simp; rfl)); intro gb235 hg w18 hbox hb; have n0_ := zA (below_step (by repeat (first | (with_reducible first | exact HB.out | apply zC | apply zB | apply zF) | exact HB.out)) hb); have n1_ := zA (hbox); have n2_ := zA ((by rw [hg]; exact (zL (by repeat (first | (with_reducible first | exact HB.out | apply zC | apply zB | apply zF) | exact HB.out))) : w.heap.size ≤ gb235)); have n3_ := zA ((by rw [hg]; exact (zL (by repeat (first | (with_reducible first | exact HB.out | apply zC | apply zB | apply zF) | exact HB.out))) : w.heap.size ≤ gb235)); clear HB; have HB := n0_; have BK235 := n1_; have GW235 := n2_; have GE235 := n3_; clear n0_ n1_ n2_ n3_; clear hb hbox hg) | ((with_reducible refine gate_dst (N := 3) rfl ?_); refine box_event ?hg (N := 3) ?hd (cs := #[.slice A1_0 l1_0.length c1_0, .int .i64 a1_1, .int .i64 a1_2, .int .i64 a1_3, .int .i64 a1_4]) (t := 38) ?hr ?_; (case hd => rfl); (case hg => rfl); (case hr => first | (go_simp; done) | (go_simp; rfl)); intro gb236 hg w19 hbox hb; have n0_ := zA (blk_below (g := gb235) (o := .cells #[.slice A0_0 l0_0.length c0_0, .int .i64 a0_1, .int .i64 a0_2, .int .i64 a0_3, .int .i64 a0_4] 38 (0, 0)) (by (with_reducible repeat (first | refine zG ?_ _ | refine zH ?_ | refine zD ?_ _)); exact BK235.out) hb); have n1_ := zA (below_step (by repeat (first | (with_reducible first | exact HB.out | apply zC | apply zB | apply zF | refine zE ?_ GE235.out) | exact HB.out)) hb); have n2_ := zA (hbox); have n3_ := zA ((by rw [hg]; exact (zL (by repeat (first | (with_reducible first | exact HB.out | apply zC | apply zB | apply zF | refine zE ?_ GE235.out) | exact HB.out))) : w.heap.size ≤ gb236)); have n4_ := zA ((by rw [hg]; exact (zL (by repeat (first | (with_reducible first | exact HB.out | apply zC | apply zB | apply zF | refine zE ?_ GE235.out) | exact HB.out))) : w.heap.size ≤ gb236)); have n5_ := zA ((by rw [hg]; exact Nat.ne_of_lt (blk_lt (g := gb235) (o := .cells #[.slice A0_0 l0_0.length c0_0, .int .i64 a0_1, .int .i64 a0_2, .int .i64 a0_3, .int .i64 a0_4] 38 (0, 0)) (by (with_reducible repeat (first | refine zG ?_ _ | refine zH ?_ | refine zD ?_ _)); exact BK235.out)) : gb235 ≠ gb236)); have n6_ := zA ((by rw [hg]; exact Nat.ne_of_gt (blk_lt (g := gb235) (o := .cells #[.slice A0_0 l0_0.length c0_0, .int .i64 a0_1, .int .i64 a0_2, .int .i64 a0_3, .int .i64 a0_4] 38 (0, 0)) (by (with_reducible repeat (first | refine zG ?_ _ | refine zH ?_ | refine zD ?_ _)); exact BK235.out)) : gb236 ≠ gb235)); clear BK235; clear HB; have BK235 := n0_; have HB := n1_; have BK236 := n2_; have GW236 := n3_; have GE236 := n4_; have NB235_236 := n5_; have NB236_235 := n6_; clear n0_ n1_ n2_ n3_ n4_ n5_ n6_; clear hb hbox hg; have hnb20 := NB235_236.out; have hnc20 := NB236_235.out; have hcz21_0 : w19.cell? ⟨gb235, 0, none⟩ = some (.slice A0_0 l0_0.length c0_0) := (zK BK235.out 0).trans rfl; have hcz21_1 : w19.cell? ⟨gb235, 1, none⟩ = some (.int .i64 a0_1) := (zK BK235.out 1).trans rfl; have hcz21_2 : w19.cell? ⟨gb235, 2, none⟩ = some (.int .i64 a0_2) := (zK BK235.out 2).trans rfl; have hcz21_3 : w19.cell? ⟨gb235, 3, none⟩ = some (.int .i64 a0_3) := (zK BK235.out 3).trans rfl; have hcz21_4 : w19.cell? ⟨gb235, 4, none⟩ = some (.int .i64 a0_4) := (zK BK235.out 4).trans rfl; have hfz21_0 := zJ BK235.out 0; have hfz21_1 := zJ BK235.out 1; have hfz21_2 := zJ BK235.out 2; have hfz21_3 := zJ BK235.out 3; have hfz21_4 := zJ BK235.out 4; have hcz22_0 : w19.cell? ⟨gb236, 0, none⟩ = some (.slice A1_0 l1_0.length c1_0) := (zK BK236.out 0).trans rfl; have hcz22_1 : w19.cell? ⟨gb236, 1, none⟩ = some (.int .i64 a1_1) := (zK BK236.out 1).trans rfl; have hcz22_2 : w19.cell? ⟨gb236, 2, none⟩ = some (.int .i64 a1_2) := (zK BK236.out 2).trans rfl; have hcz22_3 : w19.cell? ⟨gb236, 3, none⟩ = some (.int .i64 a1_3) := (zK BK236.out 3).trans rfl; have hcz22_4 : w19.cell? ⟨gb236, 4, none⟩ = some (.int .i64 a1_4) := (zK BK236.out 4).trans rfl; have hfz22_0 := zJ BK236.out 0; have hfz22_1 := zJ BK236.out 1; have hfz22_2 := zJ BK236.out 2; have hfz22_3 := zJ BK236.out 3; have hfz22_4 := zJ BK236.out 4) | ((with_reducible refine gate_callee (f := 23) rfl ?_); refine goesL_ (some 9) rfl rfl Try.func23 (by kernel_rfl) rfl #[.slice A0_0 l0_0.length c0_0, .slice A1_0 l1_0.length c1_0] rfl (by (try simp only [zU, zV, zW]); first | done | rfl | (simp only [zR, zQ]; rfl)) ?_; (with_reducible refine (laws_sameInts.calls k _ _ l0_0 _ _ l1_0 true _ ?side1 ?side2 ?side3 ?side4 A3.out).mono ?_); (case side1 => repeat (first | exact (Kd.C_below HR0_0.out HB.out) | (with_reducible refine yN ?_ _) | (with_reducible refine yL ?_ _) | (with_reducible refine yM ?_))); (case side2 => exact HC0_0.out); (case side3 => repeat (first | exact (Kd.C_below HR1_0.out HB.out) | (with_reducible refine yN ?_ _) | (with_reducible refine yL ?_ _) | (with_reducible refine yM ?_))); (case side4 => exact HC1_0.out); rintro e w' ⟨rfl, ⟨nd, rfl⟩⟩; refine ⟨_, rfl, ?_⟩))
    go_ret
    exact ⟨by first | rfl | (simp [errW_none, errW_some] <;> rfl) | (simp [*, errW_none, errW_some] <;> rfl), by repeat (first | (with_reducible first | exact HB.out | apply zC | apply zB | apply zF | refine zE ?_ GE235.out | refine zE ?_ GE236.out) | exact HB.out)⟩
  ·rw [if_neg c5] at H
   have c5b0 : (a0_1 == a1_1) = false := beq_eq_false_iff_ne.mpr c5
   have c5b1 : (a0_1 != a1_1) = true := bne_iff_ne.mpr c5
   obtain rfl := Option.some.inj H
   go_enter Try.func57, Try.ntmps57
   go_wp2_with (first | ((with_reducible refine gate_dst (N := 2) rfl ?_); refine box_event ?hg (N := 2) ?hd (cs := #[.slice A0_0 l0_0.length c0_0, .int .i64 a0_1, .int .i64 a0_2, .int .i64 a0_3, .int .i64 a0_4]) (t := 38) ?hr ?_; (case hd => rfl); (case hg => rfl); (case hr => first | (go_simp; done) | (go_simp; rfl)); intro gb235 hg w23 hbox hb; have n0_ := zA (below_step (by repeat (first | (with_reducible first | exact HB.out | apply zC | apply zB | apply zF) | exact HB.out)) hb); have n1_ := zA (hbox); have n2_ := zA ((by rw [hg]; exact (zL (by repeat (first | (with_reducible first | exact HB.out | apply zC | apply zB | apply zF) | exact HB.out))) : w.heap.size ≤ gb235)); have n3_ := zA ((by rw [hg]; exact (zL (by repeat (first | (with_reducible first | exact HB.out | apply zC | apply zB | apply zF) | exact HB.out))) : w.heap.size ≤ gb235)); clear HB; have HB := n0_; have BK235 := n1_; have GW235 := n2_; have GE235 := n3_; clear n0_ n1_ n2_ n3_; clear hb hbox hg) | ((with_reducible refine gate_dst (N := 3) rfl ?_); refine box_event ?hg (N := 3) ?hd (cs := #[.slice A1_0 l1_0.length c1_0, .int .i64 a1_1, .int .i64 a1_2, .int .i64 a1_3, .int .i64 a1_4]) (t := 38) ?hr ?_; (case hd => rfl); (case hg => rfl); (case hr => first | (go_simp; done) | (go_simp; rfl)); intro gb236 hg w24 hbox hb; have n0_ := zA (blk_below (g := gb235) (o := .cells #[.slice A0_0 l0_0.length c0_0, .int .i64 a0_1, .int .i64 a0_2, .int .i64 a0_3, .int .i64 a0_4] 38 (0, 0)) (by (with_reducible repeat (first | refine zG ?_ _ | refine zH ?_ | refine zD ?_ _)); exact BK235.out) hb); have n1_ := zA (below_step (by repeat (first | (with_reducible first | exact HB.out | apply zC | apply zB | apply zF | refine zE ?_ GE235.out) | exact HB.out)) hb); have n2_ := zA (hbox); have n3_ := zA ((by rw [hg]; exact (zL (by repeat (first | (with_reducible first | exact HB.out | apply zC | apply zB | apply zF | refine zE ?_ GE235.out) | exact HB.out))) : w.heap.size ≤ gb236)); have n4_ := zA ((by rw [hg]; exact (zL (by repeat (first | (with_reducible first | exact HB.out | apply zC | apply zB | apply zF | refine zE ?_ GE235.out) | exact HB.out))) : w.heap.size ≤ gb236)); have n5_ := zA ((by rw [hg]; exact Nat.ne_of_lt (blk_lt (g := gb235) (o := .cells #[.slice A0_0 l0_0.length c0_0, .int .i64 a0_1, .int .i64 a0_2, .int .i64 a0_3, .int .i64 a0_4] 38 (0, 0)) (by (with_reducible repeat (first | refine zG ?_ _ | refine zH ?_ | refine zD ?_ _)); exact BK235.out)) : gb235 ≠ gb236)); have n6_ := zA ((by rw [hg]; exact Nat.ne_of_gt (blk_lt (g := gb235) (o := .cells #[.slice A0_0 l0_0.length c0_0, .int .i64 a0_1, .int .i64 a0_2, .int .i64 a0_3, .int .i64 a0_4] 38 (0, 0)) (by (with_reducible repeat (first | refine zG ?_ _ | refine zH ?_ | refine zD ?_ _)); exact BK235.out)) : gb236 ≠ gb235)); clear BK235; clear HB; have BK235 := n0_; have HB := n1_; have BK236 := n2_; have GW236 := n3_; have GE236 := n4_; have NB235_236 := n5_; have NB236_235 := n6_; clear n0_ n1_ n2_ n3_ n4_ n5_ n6_; clear hb hbox hg; have hnb25 := NB235_236.out; have hnc25 := NB236_235.out; have hcz26_0 : w24.cell? ⟨gb235, 0, none⟩ = some (.slice A0_0 l0_0.length c0_0) := (zK BK235.out 0).trans rfl; have hcz26_1 : w24.cell? ⟨gb235, 1, none⟩ = some (.int .i64 a0_1) := (zK BK235.out 1).trans rfl; have hcz26_2 : w24.cell? ⟨gb235, 2, none⟩ = some (.int .i64 a0_2) := (zK BK235.out 2).trans rfl; have hcz26_3 : w24.cell? ⟨gb235, 3, none⟩ = some (.int .i64 a0_3) := (zK BK235.out 3).trans rfl; have hcz26_4 : w24.cell? ⟨gb235, 4, none⟩ = some (.int .i64 a0_4) := (zK BK235.out 4).trans rfl; have hfz26_0 := zJ BK235.out 0; have hfz26_1 := zJ BK235.out 1; have hfz26_2 := zJ BK235.out 2; have hfz26_3 := zJ BK235.out 3; have hfz26_4 := zJ BK235.out 4; have hcz27_0 : w24.cell? ⟨gb236, 0, none⟩ = some (.slice A1_0 l1_0.length c1_0) := (zK BK236.out 0).trans rfl; have hcz27_1 : w24.cell? ⟨gb236, 1, none⟩ = some (.int .i64 a1_1) := (zK BK236.out 1).trans rfl; have hcz27_2 : w24.cell? ⟨gb236, 2, none⟩ = some (.int .i64 a1_2) := (zK BK236.out 2).trans rfl; have hcz27_3 : w24.cell? ⟨gb236, 3, none⟩ = some (.int .i64 a1_3) := (zK BK236.out 3).trans rfl; have hcz27_4 : w24.cell? ⟨gb236, 4, none⟩ = some (.int .i64 a1_4) := (zK BK236.out 4).trans rfl; have hfz27_0 := zJ BK236.out 0; have hfz27_1 := zJ BK236.out 1; have hfz27_2 := zJ BK236.out 2; have hfz27_3 := zJ BK236.out 3; have hfz27_4 := zJ BK236.out 4) | ((with_reducible refine gate_callee (f := 23) rfl ?_); refine goesL_ (some 9) rfl rfl Try.func23 (by kernel_rfl) rfl #[.slice A0_0 l0_0.length c0_0, .slice A1_0 l1_0.length c1_0] rfl (by (try simp only [zU, zV, zW]); first | done | rfl | (simp only [zR, zQ]; rfl)) ?_; (with_reducible refine (laws_sameInts.calls k _ _ l0_0 _ _ l1_0 true _ ?side1 ?side2 ?side3 ?side4 A3.out).mono ?_); (case side1 => repeat (first | exact (Kd.C_below HR0_0.out HB.out) | (with_reducible refine yN ?_ _) | (with_reducible refine yL ?_ _) | (with_reducible refine yM ?_))); (case side2 => exact HC0_0.out); (case side3 => repeat (first | exact (Kd.C_below HR1_0.out HB.out) | (with_reducible refine yN ?_ _) | (with_reducible refine yL ?_ _) | (with_reducible refine yM ?_))); (case side4 => exact HC1_0.out); rintro e w' ⟨rfl, ⟨nd, rfl⟩⟩; refine ⟨_, rfl, ?_⟩))
   go_ret
   exact ⟨by first | rfl | (simp [errW_none, errW_some] <;> rfl) | (simp [*, errW_none, errW_some] <;> rfl), by repeat (first | (with_reducible first | exact HB.out | apply zC | apply zB | apply zF | refine zE ?_ GE235.out | refine zE ?_ GE236.out) | exact HB.out)⟩
 ·replace c4 := Bool.eq_false_iff.mpr c4
  subst c4
  have H1 : (some false) = some r := by rw [if_neg (show ¬ (false = true) by decide)] at H; exact H
  clear H
  have H := H1
  clear H1
  obtain rfl := Option.some.inj H
  go_enter Try.func57, Try.ntmps57
  go_wp2_with (first | ((with_reducible refine gate_dst (N := 2) rfl ?_); refine box_event ?hg (N := 2) ?hd (cs := #[.slice A0_0 l0_0.length c0_0, .int .i64 a0_1, .int .i64 a0_2, .int .i64 a0_3, .int .i64 a0_4]) (t := 38) ?hr ?_; (case hd => rfl); (case hg => rfl); (case hr => first | (go_simp; done) | (go_simp; rfl)); intro gb235 hg w28 hbox hb; have n0_ := zA (below_step (by repeat (first | (with_reducible first | exact HB.out | apply zC | apply zB | apply zF) | exact HB.out)) hb); have n1_ := zA (hbox); have n2_ := zA ((by rw [hg]; exact (zL (by repeat (first | (with_reducible first | exact HB.out | apply zC | apply zB | apply zF) | exact HB.out))) : w.heap.size ≤ gb235)); have n3_ := zA ((by rw [hg]; exact (zL (by repeat (first | (with_reducible first | exact HB.out | apply zC | apply zB | apply zF) | exact HB.out))) : w.heap.size ≤ gb235)); clear HB; have HB := n0_; have BK235 := n1_; have GW235 := n2_; have GE235 := n3_; clear n0_ n1_ n2_ n3_; clear hb hbox hg) | ((with_reducible refine gate_dst (N := 3) rfl ?_); refine box_event ?hg (N := 3) ?hd (cs := #[.slice A1_0 l1_0.length c1_0, .int .i64 a1_1, .int .i64 a1_2, .int .i64 a1_3, .int .i64 a1_4]) (t := 38) ?hr ?_; (case hd => rfl); (case hg => rfl); (case hr => first | (go_simp; done) | (go_simp; rfl)); intro gb236 hg w29 hbox hb; have n0_ := zA (blk_below (g := gb235) (o := .cells #[.slice A0_0 l0_0.length c0_0, .int .i64 a0_1, .int .i64 a0_2, .int .i64 a0_3, .int .i64 a0_4] 38 (0, 0)) (by (with_reducible repeat (first | refine zG ?_ _ | refine zH ?_ | refine zD ?_ _)); exact BK235.out) hb); have n1_ := zA (below_step (by repeat (first | (with_reducible first | exact HB.out | apply zC | apply zB | apply zF | refine zE ?_ GE235.out) | exact HB.out)) hb); have n2_ := zA (hbox); have n3_ := zA ((by rw [hg]; exact (zL (by repeat (first | (with_reducible first | exact HB.out | apply zC | apply zB | apply zF | refine zE ?_ GE235.out) | exact HB.out))) : w.heap.size ≤ gb236)); have n4_ := zA ((by rw [hg]; exact (zL (by repeat (first | (with_reducible first | exact HB.out | apply zC | apply zB | apply zF | refine zE ?_ GE235.out) | exact HB.out))) : w.heap.size ≤ gb236)); have n5_ := zA ((by rw [hg]; exact Nat.ne_of_lt (blk_lt (g := gb235) (o := .cells #[.slice A0_0 l0_0.length c0_0, .int .i64 a0_1, .int .i64 a0_2, .int .i64 a0_3, .int .i64 a0_4] 38 (0, 0)) (by (with_reducible repeat (first | refine zG ?_ _ | refine zH ?_ | refine zD ?_ _)); exact BK235.out)) : gb235 ≠ gb236)); have n6_ := zA ((by rw [hg]; exact Nat.ne_of_gt (blk_lt (g := gb235) (o := .cells #[.slice A0_0 l0_0.length c0_0, .int .i64 a0_1, .int .i64 a0_2, .int .i64 a0_3, .int .i64 a0_4] 38 (0, 0)) (by (with_reducible repeat (first | refine zG ?_ _ | refine zH ?_ | refine zD ?_ _)); exact BK235.out)) : gb236 ≠ gb235)); clear BK235; clear HB; have BK235 := n0_; have HB := n1_; have BK236 := n2_; have GW236 := n3_; have GE236 := n4_; have NB235_236 := n5_; have NB236_235 := n6_; clear n0_ n1_ n2_ n3_ n4_ n5_ n6_; clear hb hbox hg; have hnb30 := NB235_236.out; have hnc30 := NB236_235.out; have hcz31_0 : w29.cell? ⟨gb235, 0, none⟩ = some (.slice A0_0 l0_0.length c0_0) := (zK BK235.out 0).trans rfl; have hcz31_1 : w29.cell? ⟨gb235, 1, none⟩ = some (.int .i64 a0_1) := (zK BK235.out 1).trans rfl; have hcz31_2 : w29.cell? ⟨gb235, 2, none⟩ = some (.int .i64 a0_2) := (zK BK235.out 2).trans rfl; have hcz31_3 : w29.cell? ⟨gb235, 3, none⟩ = some (.int .i64 a0_3) := (zK BK235.out 3).trans rfl; have hcz31_4 : w29.cell? ⟨gb235, 4, none⟩ = some (.int .i64 a0_4) := (zK BK235.out 4).trans rfl; have hfz31_0 := zJ BK235.out 0; have hfz31_1 := zJ BK235.out 1; have hfz31_2 := zJ BK235.out 2; have hfz31_3 := zJ BK235.out 3; have hfz31_4 := zJ BK235.out 4; have hcz32_0 : w29.cell? ⟨gb236, 0, none⟩ = some (.slice A1_0 l1_0.length c1_0) := (zK BK236.out 0).trans rfl; have hcz32_1 : w29.cell? ⟨gb236, 1, none⟩ = some (.int .i64 a1_1) := (zK BK236.out 1).trans rfl; have hcz32_2 : w29.cell? ⟨gb236, 2, none⟩ = some (.int .i64 a1_2) := (zK BK236.out 2).trans rfl; have hcz32_3 : w29.cell? ⟨gb236, 3, none⟩ = some (.int .i64 a1_3) := (zK BK236.out 3).trans rfl; have hcz32_4 : w29.cell? ⟨gb236, 4, none⟩ = some (.int .i64 a1_4) := (zK BK236.out 4).trans rfl; have hfz32_0 := zJ BK236.out 0; have hfz32_1 := zJ BK236.out 1; have hfz32_2 := zJ BK236.out 2; have hfz32_3 := zJ BK236.out 3; have hfz32_4 := zJ BK236.out 4) | ((with_reducible refine gate_callee (f := 23) rfl ?_); refine goesL_ (some 9) rfl rfl Try.func23 (by kernel_rfl) rfl #[.slice A0_0 l0_0.length c0_0, .slice A1_0 l1_0.length c1_0] rfl (by (try simp only [zU, zV, zW]); first | done | rfl | (simp only [zR, zQ]; rfl)) ?_; (with_reducible refine (laws_sameInts.calls k _ _ l0_0 _ _ l1_0 false _ ?side1 ?side2 ?side3 ?side4 A3.out).mono ?_); (case side1 => repeat (first | exact (Kd.C_below HR0_0.out HB.out) | (with_reducible refine yN ?_ _) | (with_reducible refine yL ?_ _) | (with_reducible refine yM ?_))); (case side2 => exact HC0_0.out); (case side3 => repeat (first | exact (Kd.C_below HR1_0.out HB.out) | (with_reducible refine yN ?_ _) | (with_reducible refine yL ?_ _) | (with_reducible refine yM ?_))); (case side4 => exact HC1_0.out); rintro e w' ⟨rfl, ⟨nd, rfl⟩⟩; refine ⟨_, rfl, ?_⟩))
  go_ret
  exact ⟨by first | rfl | (simp [errW_none, errW_some] <;> rfl) | (simp [*, errW_none, errW_some] <;> rfl), by repeat (first | (with_reducible first | exact HB.out | apply zC | apply zB | apply zF | refine zE ?_ GE235.out | refine zE ?_ GE236.out) | exact HB.out)⟩
end Go.Proofs.Ytilimpjcdeeaiaa.G


namespace Go.Proofs.Ytilimpjcdeeaiaa.G
open Go.RowKit Go.Proofs.YtilimpjcdeeaiaaW.PrintWords Go.Proofs.YtilimpjcdeeaiaaW.PrintLast Go.Proofs.YtilimpjcdeeaiaaW.PrintMore
attribute [local go_sem] max2_int min2_int max_two min_two max_three min_three max_four min_four   -- for this text's walks alone
def laws_sameScript.l0 : Nat → List (S38) → List (S38) → Int → Option (Bool)
 | 0, _, _, _ => none
 | k + 1, x0, x1, x5 => if x5 < (x0.length : Int) then (if 0 ≤ x5 then (if x5 < (x1.length : Int) then ((laws_sameScan.f k ((rd_T38 x0 x5).f0) ((rd_T38 x0 x5).f1) ((rd_T38 x0 x5).f2) ((rd_T38 x0 x5).f3) ((rd_T38 x0 x5).f4) ((rd_T38 x1 x5).f0) ((rd_T38 x1 x5).f1) ((rd_T38 x1 x5).f2) ((rd_T38 x1 x5).f3) ((rd_T38 x1 x5).f4)).bind fun t240 => (if t240 = true then (laws_sameScript.l0 k x0 x1 (wrap64 (x5 + 1))) else (some false))) else (none)) else (none)) else (some true)
def laws_sameScript.f (k : Nat) (l0 : List (S38)) (l1 : List (S38)) : Option (Bool) := if (l0.length : Int) = (l1.length : Int) then (laws_sameScript.l0 k l0 l1 0) else (some false)
def laws_sameScript.T6 : Bool × List (List Nat × List Nat) := (true, [([], []), ([], []), ([0, 1], [0, 1]), ([2], [2]), ([], []), ([], []), ([4, 5], [4, 5]), ([6], [6]), ([3, 7], [3, 7]), ([8], [8])])
def laws_sameScript.B6 : List Nat := [0, 0, 3, 7, 0, 0, 48, 112, 255, 511]
theorem laws_sameScript.tab6 : rtab .any (opsOf Try.f10 6) = laws_sameScript.T6 := by kernel_rfl
theorem laws_sameScript.bits6 : waitsOk laws_sameScript.T6.2 laws_sameScript.B6 = true := by kernel_rfl
set_option maxHeartbeats 8000000 in
set_option maxRecDepth 100000 in
theorem laws_sameScript.calls (k : Nat) (A0 : Option Addr) (c0 : Nat) (l0 : List (S38)) (A1 : Option Addr) (c1 : Nat) (l1 : List (S38)) (r : Bool) (w : World) (hr0 : Kd.C k38 w A0 l0.length l0) (hc0 : l0.length ≤ c0) (hr1 : Kd.C k38 w A1 l1.length l1) (hc1 : l1.length ≤ c1) (h : laws_sameScript.f k l0 l1 = some r) :
  Calls Try.prog 10 #[.slice A0 l0.length c0, .slice A1 l1.length c1] w fun e w' => e = .returned (.bool r) ∧ Below w.heap.size w w' := by
 have hu38 := Try.underlying38
 have HR0 := zA hr0
 have HC0 := zA hc0
 clear hr0 hc0
 have HR1 := zA hr1
 have HC1 := zA hc1
 clear hr1 hc1
 have HB := zA (Below.refl w.heap.size w)
 have H : (if (l0.length : Int) = (l1.length : Int) then (laws_sameScript.l0 k l0 l1 0) else (some false)) = some r := h
 clear h
 by_cases c3 : (l0.length : Int) = (l1.length : Int)
 ·rw [if_pos c3] at H
  have c3b0 : ((l0.length : Int) == (l1.length : Int)) = true := beq_iff_eq.mpr c3
  have c3b1 : ((l0.length : Int) != (l1.length : Int)) = false := bne_eq_false_iff_eq.mpr c3
  have c3b2 : (l0.length == l1.length) = true := by first | simpa using c3 | (simp at c3 ⊢; omega)
  clear c3
  have H' := zA H
  clear H
  go_enter Try.func10, Try.ntmps10
  go_wp2
  go_loopg [5] k (fun kq v5 w' => ∃ (x5_1 : Int), v5 = .int .i64 x5_1 ∧ Aside0 (laws_sameScript.l0 kq l0 l1 x5_1 = some r) ∧ Aside0 (kq ≤ k) ∧ Aside0 (Below w.heap.size w w'))
  case atStart => exact ⟨(0), (by first | rfl | (simp; done) | (simp [*]; done)), H', ⟨Nat.le_refl _⟩, ⟨by repeat (first | (with_reducible first | exact HB.out | apply zC | apply zB | apply zF) | exact HB.out)⟩⟩
  case round =>
   clear H'
   try clear c1
   try clear p2
   try clear c3
   try clear c3b0
   try clear c3b1
   try clear c3b2
   obtain ⟨x5_1, rfl, HA, HK1, HB⟩ := hrel
   cases gk with
   | zero => exact absurd HA.out (by simp [laws_sameScript.l0])
   | succ k1 =>
    have H := HA.out
    clear HA
    simp only [laws_sameScript.l0] at H
    by_cases c4 : x5_1 < (l0.length : Int)
    ·rw [if_pos c4] at H
     have c4b0 : decide (x5_1 < (l0.length : Int)) = true := zT c4
     clear c4
     by_cases c5 : 0 ≤ x5_1
     ·rw [if_pos c5] at H
      have c5b0 : decide (0 ≤ x5_1) = true := zT c5
      clear c5
      by_cases c6 : x5_1 < (l1.length : Int)
      ·rw [if_pos c6] at H
       have c6b0 : decide (x5_1 < (l1.length : Int)) = true := zT c6
       clear c6
       replace H := Option.bind_eq_some_iff.mp H
       obtain ⟨t240, A70, H⟩ := H
       replace H : (if t240 = true then (laws_sameScript.l0 k1 l0 l1 (wrap64 (x5_1 + 1))) else (some false)) = some r := H
       have A7 := zA A70
       clear A70
       by_cases c8 : t240 = true
       ·subst c8
        have H1 : (laws_sameScript.l0 k1 l0 l1 (wrap64 (x5_1 + 1))) = some r := by rw [if_pos rfl] at H; exact H
        clear H
        have H := H1
        clear H1
        have H' := zA H
        clear H
        try go_wp2
        have n0_ := zA (zF HB.out)
        clear HB
        have HB := n0_
        clear n0_
        have p238 : 0 ≤ (x5_1 : Int) := zI (by first | (with_reducible assumption) | assumption)
        have q238 : x5_1 < (l0.length : Int) := zI (by first | (with_reducible assumption) | assumption)
        obtain ⟨ad238, A238_0, c238_0, e238, hx238_0, hx238_1, hx238_2, hx238_3, hx238_4, hl238_0, hi238_0⟩ := at_T38 HR0.out x5_1 p238 q238
        have hw238_4 := hx238_4
        have hw238_3 := hx238_3
        have hw238_2 := hx238_2
        have hw238_1 := hx238_1
        have hw238_0 := hx238_0
        cases e238
        replace hx238_0 := (HB.out.cell (World.block_lt_of_cell? w _ hx238_0)).trans hx238_0
        replace hx238_1 := (HB.out.cell (World.block_lt_of_cell? w _ hx238_1)).trans hx238_1
        replace hx238_2 := (HB.out.cell (World.block_lt_of_cell? w _ hx238_2)).trans hx238_2
        replace hx238_3 := (HB.out.cell (World.block_lt_of_cell? w _ hx238_3)).trans hx238_3
        replace hx238_4 := (HB.out.cell (World.block_lt_of_cell? w _ hx238_4)).trans hx238_4
        have HR238_0 := zA hi238_0
        have HC238_0 := zA hl238_0
        clear hi238_0 hl238_0
        replace p238 := eq_true p238
        replace q238 := eq_true q238
        have p239 : 0 ≤ (x5_1 : Int) := zI (by first | (with_reducible assumption) | assumption)
        have q239 : x5_1 < (l1.length : Int) := zI (by first | (with_reducible assumption) | assumption)
        obtain ⟨ad239, A239_0, c239_0, e239, hx239_0, hx239_1, hx239_2, hx239_3, hx239_4, hl239_0, hi239_0⟩ := at_T38 HR1.out x5_1 p239 q239
        have hw239_4 := hx239_4
        have hw239_3 := hx239_3
        have hw239_2 := hx239_2
        have hw239_1 := hx239_1
        have hw239_0 := hx239_0
        cases e239
        replace hx239_0 := (HB.out.cell (World.block_lt_of_cell? w _ hx239_0)).trans hx239_0
        replace hx239_1 := (HB.out.cell (World.block_lt_of_cell? w _ hx239_1)).trans hx239_1
        replace hx239_2 := (HB.out.cell (World.block_lt_of_cell? w _ hx239_2)).trans hx239_2
        replace hx239_3 := (HB.out.cell (World.block_lt_of_cell? w _ hx239_3)).trans hx239_3
        replace hx239_4 := (HB.out.cell (World.block_lt_of_cell? w _ hx239_4)).trans hx239_4
        have HR239_0 := zA hi239_0
        have HC239_0 := zA hl239_0
        clear hi239_0 hl239_0
        replace p239 := eq_true p239
        replace q239 := eq_true q239
        refine start_ (n := 10) (S := fun w' => w'.cell? (ad238.add ((x5_1).toNat * 5)) = some (.slice A238_0 ((rd_T38 l0 x5_1).f0).length c238_0) ∧ w'.cell? ⟨(ad238.add ((x5_1).toNat * 5)).block, (ad238.add ((x5_1).toNat * 5)).off + 1, none⟩ = some (.int .i64 ((rd_T38 l0 x5_1).f1)) ∧ w'.cell? ⟨(ad238.add ((x5_1).toNat * 5)).block, (ad238.add ((x5_1).toNat * 5)).off + 2, none⟩ = some (.int .i64 ((rd_T38 l0 x5_1).f2)) ∧ w'.cell? ⟨(ad238.add ((x5_1).toNat * 5)).block, (ad238.add ((x5_1).toNat * 5)).off + 3, none⟩ = some (.int .i64 ((rd_T38 l0 x5_1).f3)) ∧ w'.cell? ⟨(ad238.add ((x5_1).toNat * 5)).block, (ad238.add ((x5_1).toNat * 5)).off + 4, none⟩ = some (.int .i64 ((rd_T38 l0 x5_1).f4)) ∧ w'.cell? (ad239.add ((x5_1).toNat * 5)) = some (.slice A239_0 ((rd_T38 l1 x5_1).f0).length c239_0) ∧ w'.cell? ⟨(ad239.add ((x5_1).toNat * 5)).block, (ad239.add ((x5_1).toNat * 5)).off + 1, none⟩ = some (.int .i64 ((rd_T38 l1 x5_1).f1)) ∧ w'.cell? ⟨(ad239.add ((x5_1).toNat * 5)).block, (ad239.add ((x5_1).toNat * 5)).off + 2, none⟩ = some (.int .i64 ((rd_T38 l1 x5_1).f2)) ∧ w'.cell? ⟨(ad239.add ((x5_1).toNat * 5)).block, (ad239.add ((x5_1).toNat * 5)).off + 3, none⟩ = some (.int .i64 ((rd_T38 l1 x5_1).f3)) ∧ w'.cell? ⟨(ad239.add ((x5_1).toNat * 5)).block, (ad239.add ((x5_1).toNat * 5)).off + 4, none⟩ = some (.int .i64 ((rd_T38 l1 x5_1).f4))) (ds := []) #[false, false, false, false, false, false, false, false, false, false] (by kernel_rfl) rfl rfl ⟨((HB.out.cell (World.block_lt_of_cell? w _ hw238_0)).trans hw238_0), ((HB.out.cell (World.block_lt_of_cell? w _ hw238_1)).trans hw238_1), ((HB.out.cell (World.block_lt_of_cell? w _ hw238_2)).trans hw238_2), ((HB.out.cell (World.block_lt_of_cell? w _ hw238_3)).trans hw238_3), ((HB.out.cell (World.block_lt_of_cell? w _ hw238_4)).trans hw238_4), ((HB.out.cell (World.block_lt_of_cell? w _ hw239_0)).trans hw239_0), ((HB.out.cell (World.block_lt_of_cell? w _ hw239_1)).trans hw239_1), ((HB.out.cell (World.block_lt_of_cell? w _ hw239_2)).trans hw239_2), ((HB.out.cell (World.block_lt_of_cell? w _ hw239_3)).trans hw239_3), ((HB.out.cell (World.block_lt_of_cell? w _ hw239_4)).trans hw239_4)⟩ (fun hHeld => ?_); refine with_tabW laws_sameScript.tab6 laws_sameScript.bits6 (fun HT_ HW_ => ?_)
        generalize wr.drew = w9 at HB HR238_0 HR239_0 hx238_0 hx238_1 hx238_2 hx238_3 hx238_4 hx239_0 hx239_1 hx239_2 hx239_3 hx239_4 hHeld ⊢
        refine pure_ (i := 0) (N := some 17) (v := ?_) (a' := ?_) #[true, false, false, false, false, false, false, false, false, false] rfl rfl (any_of HT_.out (by kernel_rfl)) (fun _ _ _ h => h) (Or.inl ⟨by rfl, ?_⟩) ?_ ?_
        rotate_left
        ·intro w'
         go_simp
         with_reducible rfl
        rotate_left
        ·simp only [Act.put, List.setIfInBounds_toArray, List.set_cons_zero, List.set_cons_succ, i64_w, i32_w]
         rfl
        refine pure_ (i := 1) (N := some 18) (v := ?_) (a' := ?_) #[true, true, false, false, false, false, false, false, false, false] rfl rfl (any_of HT_.out (by kernel_rfl)) (fun _ _ _ h => h) (Or.inl ⟨by rfl, ?_⟩) ?_ ?_
        rotate_left
        ·intro w'
         go_simp
         with_reducible rfl
        rotate_left
        ·simp only [Act.put, List.setIfInBounds_toArray, List.set_cons_zero, List.set_cons_succ, i64_w, i32_w]
         rfl
        refine pure_ (i := 2) (N := some 19) (v := ?_) (a' := ?_) #[true, true, true, false, false, false, false, false, false, false] rfl rfl (any_of HT_.out (by kernel_rfl)) (fun _ _ _ h => h) (Or.inl ⟨by rfl, ?_⟩) ?_ ?_
        rotate_left
        ·intro w'
         go_simp
         with_reducible rfl
        rotate_left
        ·simp only [Act.put, List.setIfInBounds_toArray, List.set_cons_zero, List.set_cons_succ, i64_w, i32_w]
         rfl
        refine pure_ (i := 4) (N := some 21) (v := ?_) (a' := ?_) #[true, true, true, false, true, false, false, false, false, false] rfl rfl (any_of HT_.out (by kernel_rfl)) (fun _ _ _ h => h) (Or.inl ⟨by rfl, ?_⟩) ?_ ?_
        rotate_left
        ·intro w'
         go_simp
         with_reducible rfl
        rotate_left
        ·simp only [Act.put, List.setIfInBounds_toArray, List.set_cons_zero, List.set_cons_succ, i64_w, i32_w]
         rfl
        refine pure_ (i := 5) (N := some 22) (v := ?_) (a' := ?_) #[true, true, true, false, true, true, false, false, false, false] rfl rfl (any_of HT_.out (by kernel_rfl)) (fun _ _ _ h => h) (Or.inl ⟨by rfl, ?_⟩) ?_ ?_
        rotate_left
        ·intro w'
         go_simp
         with_reducible rfl
        rotate_left
        ·simp only [Act.put, List.setIfInBounds_toArray, List.set_cons_zero, List.set_cons_succ, i64_w, i32_w]
         rfl
        refine pure_ (i := 6) (N := some 23) (v := ?_) (a' := ?_) #[true, true, true, false, true, true, true, false, false, false] rfl rfl (any_of HT_.out (by kernel_rfl)) (fun _ _ _ h => h) (Or.inl ⟨by rfl, ?_⟩) ?_ ?_
        rotate_left
        ·intro w'
         go_simp
         with_reducible rfl
        rotate_left
        ·simp only [Act.put, List.setIfInBounds_toArray, List.set_cons_zero, List.set_cons_succ, i64_w, i32_w]
         rfl
        refine take_ (i := 3) (N := some 20) (v := ?_) (a' := ?_) #[true, true, true, true, true, true, true, false, false, false] rfl rfl (take_ofW HT_.out HW_.out (by kernel_rfl)) (fun _ _ _ h => h) (Or.inl ⟨by rfl, ?_⟩) hHeld ?_ ?_
        rotate_left
        ·rintro w' ⟨s0, s1, s2, s3, s4, s5, s6, s7, s8, s9⟩
         go_simp
         with_reducible rfl
        rotate_left
        ·simp only [Act.put, List.setIfInBounds_toArray, List.set_cons_zero, List.set_cons_succ, i64_w, i32_w]
         rfl
        refine take_ (i := 7) (N := some 24) (v := ?_) (a' := ?_) #[true, true, true, true, true, true, true, true, false, false] rfl rfl (take_ofW HT_.out HW_.out (by kernel_rfl)) (fun _ _ _ h => h) (Or.inl ⟨by rfl, ?_⟩) hHeld ?_ ?_
        rotate_left
        ·rintro w' ⟨s0, s1, s2, s3, s4, s5, s6, s7, s8, s9⟩
         go_simp
         with_reducible rfl
        rotate_left
        ·simp only [Act.put, List.setIfInBounds_toArray, List.set_cons_zero, List.set_cons_succ, i64_w, i32_w]
         rfl
        refine one_ (i := 8) (N := some 25) #[true, true, true, true, true, true, true, true, true, false] rfl rfl (one_of HT_.out (by kernel_rfl)) (by decide) (fun K hK => ?_)
        refine goes_ Try.func57 (by kernel_rfl) rfl #[.agg #[.slice A238_0 ((rd_T38 l0 x5_1).f0).length c238_0, .int .i64 ((rd_T38 l0 x5_1).f1), .int .i64 ((rd_T38 l0 x5_1).f2), .int .i64 ((rd_T38 l0 x5_1).f3), .int .i64 ((rd_T38 l0 x5_1).f4)], .agg #[.slice A239_0 ((rd_T38 l1 x5_1).f0).length c239_0, .int .i64 ((rd_T38 l1 x5_1).f1), .int .i64 ((rd_T38 l1 x5_1).f2), .int .i64 ((rd_T38 l1 x5_1).f3), .int .i64 ((rd_T38 l1 x5_1).f4)]] (by rfl) rfl rfl (by (try simp only [zU, zV, zW]); first | done | rfl | (simp only [zR, zQ]; rfl)) ?_
        with_reducible refine (laws_sameScan.calls k1 _ _ ((rd_T38 l0 x5_1).f0) ((rd_T38 l0 x5_1).f1) ((rd_T38 l0 x5_1).f2) ((rd_T38 l0 x5_1).f3) ((rd_T38 l0 x5_1).f4) _ _ ((rd_T38 l1 x5_1).f0) ((rd_T38 l1 x5_1).f1) ((rd_T38 l1 x5_1).f2) ((rd_T38 l1 x5_1).f3) ((rd_T38 l1 x5_1).f4) true _ ?side1 ?side2 ?side3 ?side4 A7.out).mono ?_
        (case side1 => repeat (first | exact (Kd.C_below HR238_0.out HB.out) | (with_reducible refine yN ?_ _) | (with_reducible refine yL ?_ _) | (with_reducible refine yM ?_)))
        (case side2 => exact HC238_0.out)
        (case side3 => repeat (first | exact (Kd.C_below HR239_0.out HB.out) | (with_reducible refine yN ?_ _) | (with_reducible refine yL ?_ _) | (with_reducible refine yM ?_)))
        (case side4 => exact HC239_0.out)
        rintro e w10 ⟨rfl, hb⟩
        refine ⟨_, rfl, ?_⟩
        have n0_ := zA (below_step (by repeat (first | (with_reducible first | exact HB.out | apply zC | apply zB | apply zF) | exact HB.out)) hb)
        clear HB
        have HB := n0_
        clear n0_
        (try clear hb)
        (try clear hb2)
        (try clear hk)
        (try clear hi)
        refine hK.out _ _ ⟨((HB.out.cell (World.block_lt_of_cell? w _ hw238_0)).trans hw238_0), ((HB.out.cell (World.block_lt_of_cell? w _ hw238_1)).trans hw238_1), ((HB.out.cell (World.block_lt_of_cell? w _ hw238_2)).trans hw238_2), ((HB.out.cell (World.block_lt_of_cell? w _ hw238_3)).trans hw238_3), ((HB.out.cell (World.block_lt_of_cell? w _ hw238_4)).trans hw238_4), ((HB.out.cell (World.block_lt_of_cell? w _ hw239_0)).trans hw239_0), ((HB.out.cell (World.block_lt_of_cell? w _ hw239_1)).trans hw239_1), ((HB.out.cell (World.block_lt_of_cell? w _ hw239_2)).trans hw239_2), ((HB.out.cell (World.block_lt_of_cell? w _ hw239_3)).trans hw239_3), ((HB.out.cell (World.block_lt_of_cell? w _ hw239_4)).trans hw239_4)⟩ (fun hHeld => ?_)
        clear hK K
        refine norm_ (a' := ?_) ?_ ?_
        rotate_left
        ·show Act.put _ (some 25) _ = _
         simp only [Act.put, List.setIfInBounds_toArray, List.set_cons_zero, List.set_cons_succ, i64_w, i32_w]
         rfl
        refine pure_ (i := 9) (N := some 26) (v := ?_) (a' := ?_) #[true, true, true, true, true, true, true, true, true, true] rfl rfl (any_of HT_.out (by kernel_rfl)) (fun _ _ _ h => h) (Or.inl ⟨by rfl, ?_⟩) ?_ ?_
        rotate_left
        ·intro w'
         go_simp
         with_reducible rfl
        rotate_left
        ·simp only [Act.put, List.setIfInBounds_toArray, List.set_cons_zero, List.set_cons_succ, i64_w, i32_w]
         rfl
        refine done_ (done_of HT_.out (by kernel_rfl)) ?_
        try go_wp2
        go_roundg k1
        case measure => have := HK1.out; omega
        case rel => exact ⟨(wrap64 (x5_1 + 1)), (by first | rfl | (simp; done) | (simp [*]; done)), H', ⟨by have := HK1.out; omega⟩, ⟨by repeat (first | (with_reducible first | exact HB.out | apply zC | apply zB | apply zF) | exact HB.out)⟩⟩
       ·replace c8 := Bool.eq_false_iff.mpr c8
        subst c8
        have H1 : (some false) = some r := by rw [if_neg (show ¬ (false = true) by decide)] at H; exact H
        clear H
        have H := H1
        clear H1
        obtain rfl := Option.some.inj H
        try go_wp2
        have n0_ := zA (zF HB.out)
        clear HB
        have HB := n0_
        clear n0_
        have p238 : 0 ≤ (x5_1 : Int) := zI (by first | (with_reducible assumption) | assumption)
        have q238 : x5_1 < (l0.length : Int) := zI (by first | (with_reducible assumption) | assumption)
        obtain ⟨ad238, A238_0, c238_0, e238, hx238_0, hx238_1, hx238_2, hx238_3, hx238_4, hl238_0, hi238_0⟩ := at_T38 HR0.out x5_1 p238 q238
        have hw238_4 := hx238_4
        have hw238_3 := hx238_3
        have hw238_2 := hx238_2
        have hw238_1 := hx238_1
        have hw238_0 := hx238_0
        cases e238
        replace hx238_0 := (HB.out.cell (World.block_lt_of_cell? w _ hx238_0)).trans hx238_0
        replace hx238_1 := (HB.out.cell (World.block_lt_of_cell? w _ hx238_1)).trans hx238_1
        replace hx238_2 := (HB.out.cell (World.block_lt_of_cell? w _ hx238_2)).trans hx238_2
        replace hx238_3 := (HB.out.cell (World.block_lt_of_cell? w _ hx238_3)).trans hx238_3
        replace hx238_4 := (HB.out.cell (World.block_lt_of_cell? w _ hx238_4)).trans hx238_4
        have HR238_0 := zA hi238_0
        have HC238_0 := zA hl238_0
        clear hi238_0 hl238_0
        replace p238 := eq_true p238
        replace q238 := eq_true q238
        have p239 : 0 ≤ (x5_1 : Int) := zI (by first | (with_reducible assumption) | assumption)
        have q239 : x5_1 < (l1.length : Int) := zI (by first | (with_reducible assumption) | assumption)
        obtain ⟨ad239, A239_0, c239_0, e239, hx239_0, hx239_1, hx239_2, hx239_3, hx239_4, hl239_0, hi239_0⟩ := at_T38 HR1.out x5_1 p239 q239
        have hw239_4 := hx239_4
        have hw239_3 := hx239_3
        have hw239_2 := hx239_2
        have hw239_1 := hx239_1
        have hw239_0 := hx239_0
        cases e239
        replace hx239_0 := (HB.out.cell (World.block_lt_of_cell? w _ hx239_0)).trans hx239_0
        replace hx239_1 := (HB.out.cell (World.block_lt_of_cell? w _ hx239_1)).trans hx239_1
        replace hx239_2 := (HB.out.cell (World.block_lt_of_cell? w _ hx239_2)).trans hx239_2
        replace hx239_3 := (HB.out.cell (World.block_lt_of_cell? w _ hx239_3)).trans hx239_3
        replace hx239_4 := (HB.out.cell (World.block_lt_of_cell? w _ hx239_4)).trans hx239_4
        have HR239_0 := zA hi239_0
        have HC239_0 := zA hl239_0
        clear hi239_0 hl239_0
        replace p239 := eq_true p239
        replace q239 := eq_true q239
        refine start_ (n := 10) (S := fun w' => w'.cell? (ad238.add ((x5_1).toNat * 5)) = some (.slice A238_0 ((rd_T38 l0 x5_1).f0).length c238_0) ∧ w'.cell? ⟨(ad238.add ((x5_1).toNat * 5)).block, (ad238.add ((x5_1).toNat * 5)).off + 1, none⟩ = some (.int .i64 ((rd_T38 l0 x5_1).f1)) ∧ w'.cell? ⟨(ad238.add ((x5_1).toNat * 5)).block, (ad238.add ((x5_1).toNat * 5)).off + 2, none⟩ = some (.int .i64 ((rd_T38 l0 x5_1).f2)) ∧ w'.cell? ⟨(ad238.add ((x5_1).toNat * 5)).block, (ad238.add ((x5_1).toNat * 5)).off + 3, none⟩ = some (.int .i64 ((rd_T38 l0 x5_1).f3)) ∧ w'.cell? ⟨(ad238.add ((x5_1).toNat * 5)).block, (ad238.add ((x5_1).toNat * 5)).off + 4, none⟩ = some (.int .i64 ((rd_T38 l0 x5_1).f4)) ∧ w'.cell? (ad239.add ((x5_1).toNat * 5)) = some (.slice A239_0 ((rd_T38 l1 x5_1).f0).length c239_0) ∧ w'.cell? ⟨(ad239.add ((x5_1).toNat * 5)).block, (ad239.add ((x5_1).toNat * 5)).off + 1, none⟩ = some (.int .i64 ((rd_T38 l1 x5_1).f1)) ∧ w'.cell? ⟨(ad239.add ((x5_1).toNat * 5)).block, (ad239.add ((x5_1).toNat * 5)).off + 2, none⟩ = some (.int .i64 ((rd_T38 l1 x5_1).f2)) ∧ w'.cell? ⟨(ad239.add ((x5_1).toNat * 5)).block, (ad239.add ((x5_1).toNat * 5)).off + 3, none⟩ = some (.int .i64 ((rd_T38 l1 x5_1).f3)) ∧ w'.cell? ⟨(ad239.add ((x5_1).toNat * 5)).block, (ad239.add ((x5_1).toNat * 5)).off + 4, none⟩ = some (.int .i64 ((rd_T38 l1 x5_1).f4))) (ds := []) #[false, false, false, false, false, false, false, false, false, false] (by kernel_rfl) rfl rfl ⟨((HB.out.cell (World.block_lt_of_cell? w _ hw238_0)).trans hw238_0), ((HB.out.cell (World.block_lt_of_cell? w _ hw238_1)).trans hw238_1), ((HB.out.cell (World.block_lt_of_cell? w _ hw238_2)).trans hw238_2), ((HB.out.cell (World.block_lt_of_cell? w _ hw238_3)).trans hw238_3), ((HB.out.cell (World.block_lt_of_cell? w _ hw238_4)).trans hw238_4), ((HB.out.cell (World.block_lt_of_cell? w _ hw239_0)).trans hw239_0), ((HB.out.cell (World.block_lt_of_cell? w _ hw239_1)).trans hw239_1), ((HB.out.cell (World.block_lt_of_cell? w _ hw239_2)).trans hw239_2), ((HB.out.cell (World.block_lt_of_cell? w _ hw239_3)).trans hw239_3), ((HB.out.cell (World.block_lt_of_cell? w _ hw239_4)).trans hw239_4)⟩ (fun hHeld => ?_); refine with_tabW laws_sameScript.tab6 laws_sameScript.bits6 (fun HT_ HW_ => ?_)
        generalize wr.drew = w11 at HB HR238_0 HR239_0 hx238_0 hx238_1 hx238_2 hx238_3 hx238_4 hx239_0 hx239_1 hx239_2 hx239_3 hx239_4 hHeld ⊢
        refine pure_ (i := 0) (N := some 17) (v := ?_) (a' := ?_) #[true, false, false, false, false, false, false, false, false, false] rfl rfl (any_of HT_.out (by kernel_rfl)) (fun _ _ _ h => h) (Or.inl ⟨by rfl, ?_⟩) ?_ ?_
        rotate_left
        ·intro w'
         go_simp
         with_reducible rfl
        rotate_left
        ·simp only [Act.put, List.setIfInBounds_toArray, List.set_cons_zero, List.set_cons_succ, i64_w, i32_w]
         rfl
        refine pure_ (i := 1) (N := some 18) (v := ?_) (a' := ?_) #[true, true, false, false, false, false, false, false, false, false] rfl rfl (any_of HT_.out (by kernel_rfl)) (fun _ _ _ h => h) (Or.inl ⟨by rfl, ?_⟩) ?_ ?_
        rotate_left
        ·intro w'
         go_simp
         with_reducible rfl
        rotate_left
        ·simp only [Act.put, List.setIfInBounds_toArray, List.set_cons_zero, List.set_cons_succ, i64_w, i32_w]
         rfl
        refine pure_ (i := 2) (N := some 19) (v := ?_) (a' := ?_) #[true, true, true, false, false, false, false, false, false, false] rfl rfl (any_of HT_.out (by kernel_rfl)) (fun _ _ _ h => h) (Or.inl ⟨by rfl, ?_⟩) ?_ ?_
        rotate_left
        ·intro w'
         go_simp
         with_reducible rfl
        rotate_left
        ·simp only [Act.put, List.setIfInBounds_toArray, List.set_cons_zero, List.set_cons_succ, i64_w, i32_w]
         rfl
        refine pure_ (i := 4) (N := some 21) (v := ?_) (a' := ?_) #[true, true, true, false, true, false, false, false, false, false] rfl rfl (any_of HT_.out (by kernel_rfl)) (fun _ _ _ h => h) (Or.inl ⟨by rfl, ?_⟩) ?_ ?_
        rotate_left
        ·intro w'
         go_simp
         with_reducible rfl
        rotate_left
        ·simp only [Act.put, List.setIfInBounds_toArray, List.set_cons_zero, List.set_cons_succ, i64_w, i32_w]
         rfl
        refine pure_ (i := 5) (N := some 22) (v := ?_) (a' := ?_) #[true, true, true, false, true, true, false, false, false, false] rfl rfl (any_of HT_.out (by kernel_rfl)) (fun _ _ _ h => h) (Or.inl ⟨by rfl, ?_⟩) ?_ ?_
        rotate_left
        ·intro w'
         go_simp
         with_reducible rfl
        rotate_left
        ·simp only [Act.put, List.setIfInBounds_toArray, List.set_cons_zero, List.set_cons_succ, i64_w, i32_w]
         rfl
        refine pure_ (i := 6) (N := some 23) (v := ?_) (a' := ?_) #[true, true, true, false, true, true, true, false, false, false] rfl rfl (any_of HT_.out (by kernel_rfl)) (fun _ _ _ h => h) (Or.inl ⟨by rfl, ?_⟩) ?_ ?_
        rotate_left
        ·intro w'
         go_simp
         with_reducible rfl
        rotate_left
        ·simp only [Act.put, List.setIfInBounds_toArray, List.set_cons_zero, List.set_cons_succ, i64_w, i32_w]
         rfl
        refine take_ (i := 3) (N := some 20) (v := ?_) (a' := ?_) #[true, true, true, true, true, true, true, false, false, false] rfl rfl (take_ofW HT_.out HW_.out (by kernel_rfl)) (fun _ _ _ h => h) (Or.inl ⟨by rfl, ?_⟩) hHeld ?_ ?_
        rotate_left
        ·rintro w' ⟨s0, s1, s2, s3, s4, s5, s6, s7, s8, s9⟩
         go_simp
         with_reducible rfl
        rotate_left
        ·simp only [Act.put, List.setIfInBounds_toArray, List.set_cons_zero, List.set_cons_succ, i64_w, i32_w]
         rfl
        refine take_ (i := 7) (N := some 24) (v := ?_) (a' := ?_) #[true, true, true, true, true, true, true, true, false, false] rfl rfl (take_ofW HT_.out HW_.out (by kernel_rfl)) (fun _ _ _ h => h) (Or.inl ⟨by rfl, ?_⟩) hHeld ?_ ?_
        rotate_left
        ·rintro w' ⟨s0, s1, s2, s3, s4, s5, s6, s7, s8, s9⟩
         go_simp
         with_reducible rfl
        rotate_left
        ·simp only [Act.put, List.setIfInBounds_toArray, List.set_cons_zero, List.set_cons_succ, i64_w, i32_w]
         rfl
        refine one_ (i := 8) (N := some 25) #[true, true, true, true, true, true, true, true, true, false] rfl rfl (one_of HT_.out (by kernel_rfl)) (by decide) (fun K hK => ?_)
        refine goes_ Try.func57 (by kernel_rfl) rfl #[.agg #[.slice A238_0 ((rd_T38 l0 x5_1).f0).length c238_0, .int .i64 ((rd_T38 l0 x5_1).f1), .int .i64 ((rd_T38 l0 x5_1).f2), .int .i64 ((rd_T38 l0 x5_1).f3), .int .i64 ((rd_T38 l0 x5_1).f4)], .agg #[.slice A239_0 ((rd_T38 l1 x5_1).f0).length c239_0, .int .i64 ((rd_T38 l1 x5_1).f1), .int .i64 ((rd_T38 l1 x5_1).f2), .int .i64 ((rd_T38 l1 x5_1).f3), .int .i64 ((rd_T38 l1 x5_1).f4)]] (by rfl) rfl rfl (by (try simp only [zU, zV, zW]); first | done | rfl | (simp only [zR, zQ]; rfl)) ?_
        with_reducible refine (laws_sameScan.calls k1 _ _ ((rd_T38 l0 x5_1).f0) ((rd_T38 l0 x5_1).f1) ((rd_T38 l0 x5_1).f2) ((rd_T38 l0 x5_1).f3) ((rd_T38 l0 x5_1).f4) _ _ ((rd_T38 l1 x5_1).f0) ((rd_T38 l1 x5_1).f1) ((rd_T38 l1 x5_1).f2) ((rd_T38 l1 x5_1).f3) ((rd_T38 l1 x5_1).f4) false _ ?side1 ?side2 ?side3 ?side4 A7.out).mono ?_
        (case side1 => repeat (first | exact (Kd.C_below HR238_0.out HB.out) | (with_reducible refine yN ?_ _) | (with_reducible refine yL ?_ _) | (with_reducible refine yM ?_)))
        (case side2 => exact HC238_0.out)
        (case side3 => repeat (first | exact (Kd.C_below HR239_0.out HB.out) | (with_reducible refine yN ?_ _) | (with_reducible refine yL ?_ _) | (with_reducible refine yM ?_)))
        (case side4 => exact HC239_0.out)
        rintro e w12 ⟨rfl, hb⟩
        refine ⟨_, rfl, ?_⟩
        have n0_ := zA (below_step (by repeat (first | (with_reducible first | exact HB.out | apply zC | apply zB | apply zF) | exact HB.out)) hb)
        clear HB
        have HB := n0_
        clear n0_
        (try clear hb)
        (try clear hb2)
        (try clear hk)
        (try clear hi)
        refine hK.out _ _ ⟨((HB.out.cell (World.block_lt_of_cell? w _ hw238_0)).trans hw238_0), ((HB.out.cell (World.block_lt_of_cell? w _ hw238_1)).trans hw238_1), ((HB.out.cell (World.block_lt_of_cell? w _ hw238_2)).trans hw238_2), ((HB.out.cell (World.block_lt_of_cell? w _ hw238_3)).trans hw238_3), ((HB.out.cell (World.block_lt_of_cell? w _ hw238_4)).trans hw238_4), ((HB.out.cell (World.block_lt_of_cell? w _ hw239_0)).trans hw239_0), ((HB.out.cell (World.block_lt_of_cell? w _ hw239_1)).trans hw239_1), ((HB.out.cell (World.block_lt_of_cell? w _ hw239_2)).trans hw239_2), ((HB.out.cell (World.block_lt_of_cell? w _ hw239_3)).trans hw239_3), ((HB.out.cell (World.block_lt_of_cell? w _ hw239_4)).trans hw239_4)⟩ (fun hHeld => ?_)
        clear hK K
        refine norm_ (a' := ?_) ?_ ?_
        rotate_left
        ·show Act.put _ (some 25) _ = _
         simp only [Act.put, List.setIfInBounds_toArray, List.set_cons_zero, List.set_cons_succ, i64_w, i32_w]
         rfl
        refine pure_ (i := 9) (N := some 26) (v := ?_) (a' := ?_) #[true, true, true, true, true, true, true, true, true, true] rfl rfl (any_of HT_.out (by kernel_rfl)) (fun _ _ _ h => h) (Or.inl ⟨by rfl, ?_⟩) ?_ ?_
        rotate_left
        ·intro w'
         go_simp
         with_reducible rfl
        rotate_left
        ·simp only [Act.put, List.setIfInBounds_toArray, List.set_cons_zero, List.set_cons_succ, i64_w, i32_w]
         rfl
        refine done_ (done_of HT_.out (by kernel_rfl)) ?_
        try go_wp2
        go_ret
        exact ⟨by first | rfl | (simp [errW_none, errW_some] <;> rfl) | (simp [*, errW_none, errW_some] <;> rfl), by repeat (first | (with_reducible first | exact HB.out | apply zC | apply zB | apply zF) | exact HB.out)⟩
      ·rw [if_neg c6] at H
       exact absurd H (by simp)
     ·rw [if_neg c5] at H
      exact absurd H (by simp)
    ·rw [if_neg c4] at H
     have c4b0 : decide (x5_1 < (l0.length : Int)) = false := decide_eq_false c4
     clear c4
     obtain rfl := Option.some.inj H
     go_wp2
     go_ret
     exact ⟨by first | rfl | (simp [errW_none, errW_some] <;> rfl) | (simp [*, errW_none, errW_some] <;> rfl), by repeat (first | (with_reducible first | exact HB.out | apply zC | apply zB | apply zF) | exact HB.out)⟩
 ·rw [if_neg c3] at H
  have c3b0 : ((l0.length : Int) == (l1.length : Int)) = false := beq_eq_false_iff_ne.mpr c3
  have c3b1 : ((l0.length : Int) != (l1.length : Int)) = true := bne_iff_ne.mpr c3
  have c3b2 : (l0.length == l1.length) = false := by first | simpa using c3 | (simp at c3 ⊢; omega)
  obtain rfl := Option.some.inj H
  go_enter Try.func10, Try.ntmps10
  go_wp2
  go_ret
  exact ⟨by first | rfl | (simp [errW_none, errW_some] <;> rfl) | (simp [*, errW_none, errW_some] <;> rfl), by repeat (first | (with_reducible first | exact HB.out | apply zC | apply zB | apply zF) | exact HB.out)⟩
end Go.Proofs.Ytilimpjcdeeaiaa.G


namespace Go.Proofs.Ytilimpjcdeeaiaa.G
open Go.RowKit Go.Proofs.YtilimpjcdeeaiaaW.PrintWords Go.Proofs.YtilimpjcdeeaiaaW.PrintLast Go.Proofs.YtilimpjcdeeaiaaW.PrintMore
attribute [local go_sem] max2_int min2_int max_two min_two max_three min_three max_four min_four   -- for this text's walks alone
def spec_l01Between.f (a0 : Int) (a1 : Int) (a2 : Int) : Option (Bool) := if a0 ≥ a1 then (some (decide (a0 ≤ a2))) else (some false)
set_option maxHeartbeats 8000000 in
set_option maxRecDepth 100000 in
theorem spec_l01Between.calls (a0 : Int) (a1 : Int) (a2 : Int) (r : Bool) (w : World) (h : spec_l01Between.f a0 a1 a2 = some r) :
  Calls Try.prog 58 #[.int .i64 a0, .int .i64 a1, .int .i64 a2] w fun e w' => e = .returned (.bool r) ∧ Drawn0 w w' := by
 have H : (if a0 ≥ a1 then (some (decide (a0 ≤ a2))) else (some false)) = some r := h
 clear h
 by_cases c4 : a0 ≥ a1
 ·rw [if_pos c4] at H
  have c4b0 : decide (a1 ≤ a0) = true := zT c4
  clear c4
  obtain rfl := Option.some.inj H
  go_enter Try.func58, Try.ntmps58
  go_wp2
  go_ret
  exact ⟨by first | rfl | (simp; done) | (simp [*]; done), by repeat (first | exact Drawn0.refl _ | apply Drawn0.step)⟩
 ·rw [if_neg c4] at H
  have c4b0 : decide (a1 ≤ a0) = false := decide_eq_false c4
  clear c4
  obtain rfl := Option.some.inj H
  go_enter Try.func58, Try.ntmps58
  go_wp2
  go_ret
  exact ⟨by first | rfl | (simp; done) | (simp [*]; done), by repeat (first | exact Drawn0.refl _ | apply Drawn0.step)⟩
theorem spec_l01Between.val (x lo hi : Int) : spec_l01Between.f x lo hi = some (decide (lo ≤ x) && decide (x ≤ hi)) := by
 unfold spec_l01Between.f
 by_cases h1 : x ≥ lo
 ·rw [if_pos h1]; simp [ge_iff_le.mp h1]
 ·rw [if_neg h1]; have : ¬ lo ≤ x := h1; simp [this]
end Go.Proofs.Ytilimpjcdeeaiaa.G


namespace Go.Proofs.Ytilimpjcdeeaiaa.G
open Go.RowKit Go.Proofs.YtilimpjcdeeaiaaW.PrintWords Go.Proofs.YtilimpjcdeeaiaaW.PrintLast Go.Proofs.YtilimpjcdeeaiaaW.PrintMore
attribute [local go_sem] max2_int min2_int max_two min_two max_three min_three max_four min_four   -- for this text's walks alone
theorem mul_256 (w h : Int) (h1 : 1 ≤ w) (h2 : w ≤ 256) (h3 : 1 ≤ h) (h4 : h ≤ 256) : 1 ≤ w * h ∧ w * h ≤ 65536 := by
 constructor
 ·have := Int.mul_le_mul h1 h3 (by omega) (by omega); omega
 ·have := Int.mul_le_mul h2 h4 (by omega) (by omega); omega
def headOk (p w h : Int) : Bool := (decide (p = 8) || decide (p = 12)) && ((decide (1 ≤ w) && decide (w ≤ 256)) && (decide (1 ≤ h) && decide (h ≤ 256))) && decide (w * h ≤ 16384)
structure HeadOk (p w h : Int) : Prop where
 p0 : 0 ≤ p
 w1 : 1 ≤ w
 w2 : w ≤ 256
 h1 : 1 ≤ h
 h2 : h ≤ 256
 a1 : 1 ≤ w * h
 a2 : w * h ≤ 16384
end Go.Proofs.Ytilimpjcdeeaiaa.G


namespace Go.Proofs.Ytilimpjcdeeaiaa.G
open Go.RowKit Go.Proofs.YtilimpjcdeeaiaaW.PrintWords Go.Proofs.YtilimpjcdeeaiaaW.PrintLast Go.Proofs.YtilimpjcdeeaiaaW.PrintMore
attribute [local go_sem] max2_int min2_int max_two min_two max_three min_three max_four min_four   -- for this text's walks alone
abbrev SC := S102
def compOk (x : SC) : Bool := (decide (0 ≤ x.f0) && decide (x.f0 ≤ 255)) && ((decide (1 ≤ x.f1) && decide (x.f1 ≤ 4)) && ((decide (1 ≤ x.f2) && decide (x.f2 ≤ 4)) && (decide (0 ≤ x.f3) && decide (x.f3 ≤ 3))))
/-- one of the components ahead has the number -/
def idIn (l : List SC) (i : Nat) (n : Int) : Bool := (l.take i).any fun y => decide (y.f0 = n)
def compsGo (l : List SC) : Nat → Nat → Int → Bool
 | _, 0, s => decide (s ≤ 10)
 | i, d + 1, s => compOk (rd_T102 l i) && (!idIn l i (rd_T102 l i).f0 && compsGo l (i + 1) d (s + (rd_T102 l i).f1 * (rd_T102 l i).f2))
def frameHead (p w h r n : Int) : Bool := headOk p w h && ((decide (0 ≤ r) && decide (r ≤ 255)) && (decide (1 ≤ n) && decide (n ≤ 4)))
def frameOkM (p w h r : Int) (l : List SC) : Bool := frameHead p w h r (l.length : Int) && compsGo l 0 l.length 0
theorem frameHead_len {p w h r n : Int} (q : frameHead p w h r n = true) : 1 ≤ n ∧ n ≤ 4 := by
 unfold frameHead at q
 simp only [Bool.and_eq_true, decide_eq_true_eq] at q
 exact q.2.2
theorem frameOk_len {p w h r : Int} {l : List SC} (q : frameOkM p w h r l = true) : 1 ≤ l.length ∧ l.length ≤ 4 := by
 unfold frameOkM at q
 rw [Bool.and_eq_true] at q
 have := frameHead_len q.1
 omega
theorem compOk_of {x : SC} (q : compOk x = true) : (0 ≤ x.f0 ∧ x.f0 ≤ 255) ∧ (1 ≤ x.f1 ∧ x.f1 ≤ 4) ∧ (1 ≤ x.f2 ∧ x.f2 ≤ 4) ∧ 0 ≤ x.f3 ∧ x.f3 ≤ 3 := by
 unfold compOk at q
 simp only [Bool.and_eq_true, decide_eq_true_eq] at q
 exact q
theorem mul_16 (a b : Int) (h1 : 1 ≤ a) (h2 : a ≤ 4) (h3 : 1 ≤ b) (h4 : b ≤ 4) : 1 ≤ a * b ∧ a * b ≤ 16 := by
 constructor
 ·have := Int.mul_le_mul h1 h3 (by omega) (by omega); omega
 ·have := Int.mul_le_mul h2 h4 (by omega) (by omega); omega
end Go.Proofs.Ytilimpjcdeeaiaa.G


namespace Go.Proofs.Ytilimpjcdeeaiaa.G
open Go.RowKit Go.Proofs.YtilimpjcdeeaiaaW.PrintWords Go.Proofs.YtilimpjcdeeaiaaW.PrintLast Go.Proofs.YtilimpjcdeeaiaaW.PrintMore
attribute [local go_sem] max2_int min2_int max_two min_two max_three min_three max_four min_four   -- for this text's walks alone
mutual
def spec_FrameOk.j0 : Nat → Bool → Int → Int → Int → Int → List (S102) → Option (Bool)
 | 0, _, _, _, _, _, _ => none
 | k + 1, x47, x116000, x116001, x116002, x116003, x116004 => if x47 = true then (some false) else (spec_FrameOk.l0 k 0 0 x116000 x116001 x116002 x116003 x116004)
def spec_FrameOk.l0 : Nat → Int → Int → Int → Int → Int → Int → List (S102) → Option (Bool)
 | 0, _, _, _, _, _, _, _ => none
 | k + 1, x3, x4, x116000, x116001, x116002, x116003, x116004 => if x4 < (x116004.length : Int) then (if 0 ≤ x4 then ((spec_l01Between.f ((rd_T102 x116004 x4).f0) 0 255).bind fun t126 => (if t126 = true then ((spec_l01Between.f ((rd_T102 x116004 x4).f1) 1 4).bind fun t127 => (if t127 = true then ((spec_l01Between.f ((rd_T102 x116004 x4).f2) 1 4).bind fun t128 => (if t128 = true then ((spec_l01Between.f ((rd_T102 x116004 x4).f3) 0 3).bind fun t129 => (spec_FrameOk.j2 k x3 x4 (!t129) x116000 x116001 x116002 x116003 x116004 ((rd_T102 x116004 x4).f0) ((rd_T102 x116004 x4).f1) ((rd_T102 x116004 x4).f2) ((rd_T102 x116004 x4).f3))) else (spec_FrameOk.j2 k x3 x4 true x116000 x116001 x116002 x116003 x116004 ((rd_T102 x116004 x4).f0) ((rd_T102 x116004 x4).f1) ((rd_T102 x116004 x4).f2) ((rd_T102 x116004 x4).f3)))) else (spec_FrameOk.j2 k x3 x4 true x116000 x116001 x116002 x116003 x116004 ((rd_T102 x116004 x4).f0) ((rd_T102 x116004 x4).f1) ((rd_T102 x116004 x4).f2) ((rd_T102 x116004 x4).f3)))) else (spec_FrameOk.j2 k x3 x4 true x116000 x116001 x116002 x116003 x116004 ((rd_T102 x116004 x4).f0) ((rd_T102 x116004 x4).f1) ((rd_T102 x116004 x4).f2) ((rd_T102 x116004 x4).f3)))) else (none)) else (some (decide (x3 ≤ 10)))
def spec_FrameOk.j2 : Nat → Int → Int → Bool → Int → Int → Int → Int → List (S102) → Int → Int → Int → Int → Option (Bool)
 | 0, _, _, _, _, _, _, _, _, _, _, _, _ => none
 | k + 1, x3, x4, x81, x116000, x116001, x116002, x116003, x116004, x126000, x126001, x126002, x126003 => if x81 = true then (some false) else (spec_FrameOk.l1 k x3 x4 0 x116000 x116001 x116002 x116003 x116004 x126000 x126001 x126002 x126003)
def spec_FrameOk.l1 : Nat → Int → Int → Int → Int → Int → Int → Int → List (S102) → Int → Int → Int → Int → Option (Bool)
 | 0, _, _, _, _, _, _, _, _, _, _, _, _ => none
 | k + 1, x3, x4, x6, x116000, x116001, x116002, x116003, x116004, x126000, x126001, x126002, x126003 => if x6 < x4 then (if 0 ≤ x6 then (if x6 < (x116004.length : Int) then (if ((rd_T102 x116004 x6).f0) = x126000 then (some false) else (spec_FrameOk.l1 k x3 x4 (wrap64 (x6 + 1)) x116000 x116001 x116002 x116003 x116004 x126000 x126001 x126002 x126003)) else (none)) else (none)) else (spec_FrameOk.l0 k (wrap64 (x3 + (wrap64 (x126001 * x126002)))) (wrap64 (x4 + 1)) x116000 x116001 x116002 x116003 x116004)
end
def spec_FrameOk.f (k : Nat) (a0_0 : Int) (a0_1 : Int) (a0_2 : Int) (a0_3 : Int) (l0_4 : List (S102)) : Option (Bool) := if a0_0 = 8 then ((spec_l01Between.f a0_1 1 256).bind fun t116 => (if t116 = true then ((spec_l01Between.f a0_2 1 256).bind fun t117 => (if t117 = true then (if (wrap64 (a0_1 * a0_2)) > 16384 then (spec_FrameOk.j0 k true a0_0 a0_1 a0_2 a0_3 l0_4) else ((spec_l01Between.f a0_3 0 255).bind fun t118 => (if t118 = true then ((spec_l01Between.f (l0_4.length : Int) 1 4).bind fun t119 => (spec_FrameOk.j0 k (!t119) a0_0 a0_1 a0_2 a0_3 l0_4)) else (spec_FrameOk.j0 k true a0_0 a0_1 a0_2 a0_3 l0_4)))) else (spec_FrameOk.j0 k true a0_0 a0_1 a0_2 a0_3 l0_4))) else (spec_FrameOk.j0 k true a0_0 a0_1 a0_2 a0_3 l0_4))) else (if a0_0 = 12 then ((spec_l01Between.f a0_1 1 256).bind fun t120 => (if t120 = true then ((spec_l01Between.f a0_2 1 256).bind fun t121 => (if t121 = true then (if (wrap64 (a0_1 * a0_2)) > 16384 then (spec_FrameOk.j0 k true a0_0 a0_1 a0_2 a0_3 l0_4) else ((spec_l01Between.f a0_3 0 255).bind fun t122 => (if t122 = true then ((spec_l01Between.f (l0_4.length : Int) 1 4).bind fun t123 => (spec_FrameOk.j0 k (!t123) a0_0 a0_1 a0_2 a0_3 l0_4)) else (spec_FrameOk.j0 k true a0_0 a0_1 a0_2 a0_3 l0_4)))) else (spec_FrameOk.j0 k true a0_0 a0_1 a0_2 a0_3 l0_4))) else (spec_FrameOk.j0 k true a0_0 a0_1 a0_2 a0_3 l0_4))) else (spec_FrameOk.j0 k true a0_0 a0_1 a0_2 a0_3 l0_4))
set_option maxHeartbeats 8000000 in
set_option maxRecDepth 100000 in
theorem spec_FrameOk.calls (k : Nat) (a0_0 : Int) (a0_1 : Int) (a0_2 : Int) (a0_3 : Int) (A0_4 : Option Addr) (c0_4 : Nat) (l0_4 : List (S102)) (r : Bool) (w : World) (hr0_4 : Kd.C k102 w A0_4 l0_4.length l0_4) (hc0_4 : l0_4.length ≤ c0_4) (h : spec_FrameOk.f k a0_0 a0_1 a0_2 a0_3 l0_4 = some r) :
  Calls Try.prog 12 #[.agg #[.int .i64 a0_0, .int .i64 a0_1, .int .i64 a0_2, .int .i64 a0_3, .slice A0_4 l0_4.length c0_4]] w fun e w' => e = .returned (.bool r) ∧ Below w.heap.size w w' := by
 have hu26 := Try.underlying26
 have hu102 := Try.underlying102
 have HR0_4 := zA hr0_4
 have HC0_4 := zA hc0_4
 clear hr0_4 hc0_4
 have HB := zA (Below.refl w.heap.size w)
 have H : (if a0_0 = 8 then ((spec_l01Between.f a0_1 1 256).bind fun t116 => (if t116 = true then ((spec_l01Between.f a0_2 1 256).bind fun t117 => (if t117 = true then (if (wrap64 (a0_1 * a0_2)) > 16384 then (spec_FrameOk.j0 k true a0_0 a0_1 a0_2 a0_3 l0_4) else ((spec_l01Between.f a0_3 0 255).bind fun t118 => (if t118 = true then ((spec_l01Between.f (l0_4.length : Int) 1 4).bind fun t119 => (spec_FrameOk.j0 k (!t119) a0_0 a0_1 a0_2 a0_3 l0_4)) else (spec_FrameOk.j0 k true a0_0 a0_1 a0_2 a0_3 l0_4)))) else (spec_FrameOk.j0 k true a0_0 a0_1 a0_2 a0_3 l0_4))) else (spec_FrameOk.j0 k true a0_0 a0_1 a0_2 a0_3 l0_4))) else (if a0_0 = 12 then ((spec_l01Between.f a0_1 1 256).bind fun t120 => (if t120 = true then ((spec_l01Between.f a0_2 1 256).bind fun t121 => (if t121 = true then (if (wrap64 (a0_1 * a0_2)) > 16384 then (spec_FrameOk.j0 k true a0_0 a0_1 a0_2 a0_3 l0_4) else ((spec_l01Between.f a0_3 0 255).bind fun t122 => (if t122 = true then ((spec_l01Between.f (l0_4.length : Int) 1 4).bind fun t123 => (spec_FrameOk.j0 k (!t123) a0_0 a0_1 a0_2 a0_3 l0_4)) else (spec_FrameOk.j0 k true a0_0 a0_1 a0_2 a0_3 l0_4)))) else (spec_FrameOk.j0 k true a0_0 a0_1 a0_2 a0_3 l0_4))) else (spec_FrameOk.j0 k true a0_0 a0_1 a0_2 a0_3 l0_4))) else (spec_FrameOk.j0 k true a0_0 a0_1 a0_2 a0_3 l0_4))) = some r := h
 clear h
 have HC2 := zA H
 clear H
 go_enter Try.func12, Try.ntmps12
 go_upto_region 1 with (first | ((with_reducible refine gate_dst (N := 1) rfl ?_); (try (refine gate_guard (by rfl) ?_; dsimp only)); refine box_event ?hg (N := 1) ?hd (cs := #[.int .i64 a0_0, .int .i64 a0_1, .int .i64 a0_2, .int .i64 a0_3, .slice A0_4 l0_4.length c0_4]) (t := 26) ?hr ?_; (case hd => rfl); (case hg => rfl); (case hr => first | (go_simp; done) | (go_simp; rfl)); intro gb115 hg w3 hbox hb; have n0_ := zA (below_step (by repeat (first | (with_reducible first | exact HB.out | apply zC | apply zB | apply zF) | exact HB.out)) hb); have n1_ := zA (hbox); have n2_ := zA ((by rw [hg]; exact (zL (by repeat (first | (with_reducible first | exact HB.out | apply zC | apply zB | apply zF) | exact HB.out))) : w.heap.size ≤ gb115)); have n3_ := zA ((by rw [hg]; exact (zL (by repeat (first | (with_reducible first | exact HB.out | apply zC | apply zB | apply zF) | exact HB.out))) : w.heap.size ≤ gb115)); clear HB; have HB := n0_; have BK115 := n1_; have GW115 := n2_; have GE115 := n3_; clear n0_ n1_ n2_ n3_; clear hb hbox hg))
 repeat (go_quiet (first | ((with_reducible refine gate_dst (N := 1) rfl ?_); (try (refine gate_guard (by rfl) ?_; dsimp only)); refine box_event ?hg (N := 1) ?hd (cs := #[.int .i64 a0_0, .int .i64 a0_1, .int .i64 a0_2, .int .i64 a0_3, .slice A0_4 l0_4.length c0_4]) (t := 26) ?hr ?_; (case hd => rfl); (case hg => rfl); (case hr => first | (go_simp; done) | (go_simp; rfl)); intro gb115 hg w3 hbox hb; have n0_ := zA (below_step (by repeat (first | (with_reducible first | exact HB.out | apply zC | apply zB | apply zF) | exact HB.out)) hb); have n1_ := zA (hbox); have n2_ := zA ((by rw [hg]; exact (zL (by repeat (first | (with_reducible first | exact HB.out | apply zC | apply zB | apply zF) | exact HB.out))) : w.heap.size ≤ gb115)); have n3_ := zA ((by rw [hg]; exact (zL (by repeat (first | (with_reducible first | exact HB.out | apply zC | apply zB | apply zF) | exact HB.out))) : w.heap.size ≤ gb115)); clear HB; have HB := n0_; have BK115 := n1_; have GW115 := n2_; have GE115 := n3_; clear n0_ n1_ n2_ n3_; clear hb hbox hg)); go_upto_region 1 with (first | ((with_reducible refine gate_dst (N := 1) rfl ?_); (try (refine gate_guard (by rfl) ?_; dsimp only)); refine box_event ?hg (N := 1) ?hd (cs := #[.int .i64 a0_0, .int .i64 a0_1, .int .i64 a0_2, .int .i64 a0_3, .slice A0_4 l0_4.length c0_4]) (t := 26) ?hr ?_; (case hd => rfl); (case hg => rfl); (case hr => first | (go_simp; done) | (go_simp; rfl)); intro gb115 hg w3 hbox hb; have n0_ := zA (below_step (by repeat (first | (with_reducible first | exact HB.out | apply zC | apply zB | apply zF) | exact HB.out)) hb); have n1_ := zA (hbox); have n2_ := zA ((by rw [hg]; exact (zL (by repeat (first | (with_reducible first | exact HB.out | apply zC | apply zB | apply zF) | exact HB.out))) : w.heap.size ≤ gb115)); have n3_ := zA ((by rw [hg]; exact (zL (by repeat (first | (with_reducible first | exact HB.out | apply zC | apply zB | apply zF) | exact HB.out))) : w.heap.size ≤ gb115)); clear HB; have HB := n0_; have BK115 := n1_; have GW115 := n2_; have GE115 := n3_; clear n0_ n1_ n2_ n3_; clear hb hbox hg)))
 (try simp only [Act.put, List.setIfInBounds_toArray, List.set_cons_zero, List.set_cons_succ])
 go_cut [47] (fun v47 wc => ∃ (kq : Nat) (x47_1 : Bool), v47 = .bool x47_1 ∧ Aside0 (spec_FrameOk.j0 kq x47_1 a0_0 a0_1 a0_2 a0_3 l0_4 = some r) ∧ Aside0 (kq ≤ k) ∧ Aside0 (wc.heap[gb115]? = some (.cells #[.int .i64 a0_0, .int .i64 a0_1, .int .i64 a0_2, .int .i64 a0_3, (.slice A0_4 l0_4.length c0_4)] 26 (0, 0))) ∧ Aside0 (Below w.heap.size w wc))
 case first =>
  have H := HC2.out
  clear HC2
  by_cases c4 : a0_0 = 8
  ·rw [if_pos c4] at H
   have c4b0 : (a0_0 == 8) = true := beq_iff_eq.mpr c4
   have c4b1 : (a0_0 != 8) = false := bne_eq_false_iff_eq.mpr c4
   clear c4
   (first | rw [c4b0] | (simp only [i64_w, i32_w]; rw [c4b0]) | skip)
   replace H := Option.bind_eq_some_iff.mp H
   obtain ⟨t116, A50, H⟩ := H
   replace H : (if t116 = true then ((spec_l01Between.f a0_2 1 256).bind fun t117 => (if t117 = true then (if (wrap64 (a0_1 * a0_2)) > 16384 then (spec_FrameOk.j0 k true a0_0 a0_1 a0_2 a0_3 l0_4) else ((spec_l01Between.f a0_3 0 255).bind fun t118 => (if t118 = true then ((spec_l01Between.f (l0_4.length : Int) 1 4).bind fun t119 => (spec_FrameOk.j0 k (!t119) a0_0 a0_1 a0_2 a0_3 l0_4)) else (spec_FrameOk.j0 k true a0_0 a0_1 a0_2 a0_3 l0_4)))) else (spec_FrameOk.j0 k true a0_0 a0_1 a0_2 a0_3 l0_4))) else (spec_FrameOk.j0 k true a0_0 a0_1 a0_2 a0_3 l0_4)) = some r := H
   have A5 := zA A50
   clear A50
   by_cases c6 : t116 = true
   ·subst c6
    have H1 : ((spec_l01Between.f a0_2 1 256).bind fun t117 => (if t117 = true then (if (wrap64 (a0_1 * a0_2)) > 16384 then (spec_FrameOk.j0 k true a0_0 a0_1 a0_2 a0_3 l0_4) else ((spec_l01Between.f a0_3 0 255).bind fun t118 => (if t118 = true then ((spec_l01Between.f (l0_4.length : Int) 1 4).bind fun t119 => (spec_FrameOk.j0 k (!t119) a0_0 a0_1 a0_2 a0_3 l0_4)) else (spec_FrameOk.j0 k true a0_0 a0_1 a0_2 a0_3 l0_4)))) else (spec_FrameOk.j0 k true a0_0 a0_1 a0_2 a0_3 l0_4))) = some r := by rw [if_pos rfl] at H; exact H
    clear H
    have H := H1
    clear H1
    replace H := Option.bind_eq_some_iff.mp H
    obtain ⟨t117, A70, H⟩ := H
    replace H : (if t117 = true then (if (wrap64 (a0_1 * a0_2)) > 16384 then (spec_FrameOk.j0 k true a0_0 a0_1 a0_2 a0_3 l0_4) else ((spec_l01Between.f a0_3 0 255).bind fun t118 => (if t118 = true then ((spec_l01Between.f (l0_4.length : Int) 1 4).bind fun t119 => (spec_FrameOk.j0 k (!t119) a0_0 a0_1 a0_2 a0_3 l0_4)) else (spec_FrameOk.j0 k true a0_0 a0_1 a0_2 a0_3 l0_4)))) else (spec_FrameOk.j0 k true a0_0 a0_1 a0_2 a0_3 l0_4)) = some r := H
    have A7 := zA A70
    clear A70
    by_cases c8 : t117 = true
    ·subst c8
     have H1 : (if (wrap64 (a0_1 * a0_2)) > 16384 then (spec_FrameOk.j0 k true a0_0 a0_1 a0_2 a0_3 l0_4) else ((spec_l01Between.f a0_3 0 255).bind fun t118 => (if t118 = true then ((spec_l01Between.f (l0_4.length : Int) 1 4).bind fun t119 => (spec_FrameOk.j0 k (!t119) a0_0 a0_1 a0_2 a0_3 l0_4)) else (spec_FrameOk.j0 k true a0_0 a0_1 a0_2 a0_3 l0_4)))) = some r := by rw [if_pos rfl] at H; exact H
     clear H
     have H := H1
     clear H1
     by_cases c9 : (wrap64 (a0_1 * a0_2)) > 16384
     ·rw [if_pos c9] at H
      have c9b0 : decide (16384 < (wrap64 (a0_1 * a0_2))) = true := zT c9
      clear c9
      have H' := zA H
      clear H
      have hcz10_0 : w3.cell? ⟨gb115, 0, none⟩ = some (.int .i64 a0_0) := (zK BK115.out 0).trans rfl
      have hcz10_1 : w3.cell? ⟨gb115, 1, none⟩ = some (.int .i64 a0_1) := (zK BK115.out 1).trans rfl
      have hcz10_2 : w3.cell? ⟨gb115, 2, none⟩ = some (.int .i64 a0_2) := (zK BK115.out 2).trans rfl
      have hcz10_3 : w3.cell? ⟨gb115, 3, none⟩ = some (.int .i64 a0_3) := (zK BK115.out 3).trans rfl
      have hcz10_4 : w3.cell? ⟨gb115, 4, none⟩ = some (.slice A0_4 l0_4.length c0_4) := (zK BK115.out 4).trans rfl
      have hfz10_0 := zJ BK115.out 0
      have hfz10_1 := zJ BK115.out 1
      have hfz10_2 := zJ BK115.out 2
      have hfz10_3 := zJ BK115.out 3
      have hfz10_4 := zJ BK115.out 4
      go_wp2_with (first | (go_at_call 58; (with_reducible refine (spec_l01Between.calls a0_1 1 256 true _ A5.out).mono ?_); rintro e w' ⟨rfl, ⟨nd, rfl⟩⟩; (try first | exact ⟨rfl, _, World.drewN_drewN _ _ _⟩ | exact ⟨rfl, _, Eq.trans (World.drewN_drewN _ _ _) (congrArg (World.drewN _) (Nat.add_assoc _ _ _))⟩)) | (go_at_call 58; (with_reducible refine (spec_l01Between.calls a0_2 1 256 true _ A7.out).mono ?_); rintro e w' ⟨rfl, ⟨nd, rfl⟩⟩; (try first | exact ⟨rfl, _, World.drewN_drewN _ _ _⟩ | exact ⟨rfl, _, Eq.trans (World.drewN_drewN _ _ _) (congrArg (World.drewN _) (Nat.add_assoc _ _ _))⟩)))
      repeat (go_quiet (first | (go_at_call 58; (with_reducible refine (spec_l01Between.calls a0_1 1 256 true _ A5.out).mono ?_); rintro e w' ⟨rfl, ⟨nd, rfl⟩⟩; (try first | exact ⟨rfl, _, World.drewN_drewN _ _ _⟩ | exact ⟨rfl, _, Eq.trans (World.drewN_drewN _ _ _) (congrArg (World.drewN _) (Nat.add_assoc _ _ _))⟩)) | (go_at_call 58; (with_reducible refine (spec_l01Between.calls a0_2 1 256 true _ A7.out).mono ?_); rintro e w' ⟨rfl, ⟨nd, rfl⟩⟩; (try first | exact ⟨rfl, _, World.drewN_drewN _ _ _⟩ | exact ⟨rfl, _, Eq.trans (World.drewN_drewN _ _ _) (congrArg (World.drewN _) (Nat.add_assoc _ _ _))⟩))); try go_wp2_with (first | (go_at_call 58; (with_reducible refine (spec_l01Between.calls a0_1 1 256 true _ A5.out).mono ?_); rintro e w' ⟨rfl, ⟨nd, rfl⟩⟩; (try first | exact ⟨rfl, _, World.drewN_drewN _ _ _⟩ | exact ⟨rfl, _, Eq.trans (World.drewN_drewN _ _ _) (congrArg (World.drewN _) (Nat.add_assoc _ _ _))⟩)) | (go_at_call 58; (with_reducible refine (spec_l01Between.calls a0_2 1 256 true _ A7.out).mono ?_); rintro e w' ⟨rfl, ⟨nd, rfl⟩⟩; (try first | exact ⟨rfl, _, World.drewN_drewN _ _ _⟩ | exact ⟨rfl, _, Eq.trans (World.drewN_drewN _ _ _) (congrArg (World.drewN _) (Nat.add_assoc _ _ _))⟩))))
      go_meet
      case rel => exact ⟨_, (true), (by first | rfl | (simp; done) | (simp [*]; done)), H', ⟨by first | omega | exact Nat.le_refl _⟩, ⟨by (with_reducible repeat (first | refine zG ?_ _ | refine zH ?_ | refine zD ?_ _)); exact BK115.out⟩, ⟨by repeat (first | (with_reducible first | exact HB.out | apply zC | apply zB | apply zF | refine zE ?_ GE115.out) | exact HB.out)⟩⟩
     ·rw [if_neg c9] at H
      have c9b0 : decide (16384 < (wrap64 (a0_1 * a0_2))) = false := decide_eq_false c9
      clear c9
      replace H := Option.bind_eq_some_iff.mp H
      obtain ⟨t118, A110, H⟩ := H
      replace H : (if t118 = true then ((spec_l01Between.f (l0_4.length : Int) 1 4).bind fun t119 => (spec_FrameOk.j0 k (!t119) a0_0 a0_1 a0_2 a0_3 l0_4)) else (spec_FrameOk.j0 k true a0_0 a0_1 a0_2 a0_3 l0_4)) = some r := H
      have A11 := zA A110
      clear A110
      by_cases c12 : t118 = true
      ·subst c12
       have H1 : ((spec_l01Between.f (l0_4.length : Int) 1 4).bind fun t119 => (spec_FrameOk.j0 k (!t119) a0_0 a0_1 a0_2 a0_3 l0_4)) = some r := by rw [if_pos rfl] at H; exact H
       clear H
       have H := H1
       clear H1
       replace H := Option.bind_eq_some_iff.mp H
       obtain ⟨t119, A130, H⟩ := H
       replace H : (spec_FrameOk.j0 k (!t119) a0_0 a0_1 a0_2 a0_3 l0_4) = some r := H
       have A13 := zA A130
       clear A130
       have H' := zA H
       clear H
       have hcz14_0 : w3.cell? ⟨gb115, 0, none⟩ = some (.int .i64 a0_0) := (zK BK115.out 0).trans rfl
       have hcz14_1 : w3.cell? ⟨gb115, 1, none⟩ = some (.int .i64 a0_1) := (zK BK115.out 1).trans rfl
       have hcz14_2 : w3.cell? ⟨gb115, 2, none⟩ = some (.int .i64 a0_2) := (zK BK115.out 2).trans rfl
       have hcz14_3 : w3.cell? ⟨gb115, 3, none⟩ = some (.int .i64 a0_3) := (zK BK115.out 3).trans rfl
       have hcz14_4 : w3.cell? ⟨gb115, 4, none⟩ = some (.slice A0_4 l0_4.length c0_4) := (zK BK115.out 4).trans rfl
       have hfz14_0 := zJ BK115.out 0
       have hfz14_1 := zJ BK115.out 1
       have hfz14_2 := zJ BK115.out 2
       have hfz14_3 := zJ BK115.out 3
       have hfz14_4 := zJ BK115.out 4
       go_wp2_with (first | (go_at_call 58; (with_reducible refine (spec_l01Between.calls a0_1 1 256 true _ A5.out).mono ?_); rintro e w' ⟨rfl, ⟨nd, rfl⟩⟩; (try first | exact ⟨rfl, _, World.drewN_drewN _ _ _⟩ | exact ⟨rfl, _, Eq.trans (World.drewN_drewN _ _ _) (congrArg (World.drewN _) (Nat.add_assoc _ _ _))⟩)) | (go_at_call 58; (with_reducible refine (spec_l01Between.calls a0_2 1 256 true _ A7.out).mono ?_); rintro e w' ⟨rfl, ⟨nd, rfl⟩⟩; (try first | exact ⟨rfl, _, World.drewN_drewN _ _ _⟩ | exact ⟨rfl, _, Eq.trans (World.drewN_drewN _ _ _) (congrArg (World.drewN _) (Nat.add_assoc _ _ _))⟩)) | (go_at_call 58; (with_reducible refine (spec_l01Between.calls a0_3 0 255 true _ A11.out).mono ?_); rintro e w' ⟨rfl, ⟨nd, rfl⟩⟩; (try first | exact ⟨rfl, _, World.drewN_drewN _ _ _⟩ | exact ⟨rfl, _, Eq.trans (World.drewN_drewN _ _ _) (congrArg (World.drewN _) (Nat.add_assoc _ _ _))⟩)) | (go_at_call 58; (with_reducible refine (spec_l01Between.calls (l0_4.length : Int) 1 4 t119 _ A13.out).mono ?_); rintro e w' ⟨rfl, ⟨nd, rfl⟩⟩; (try first | exact ⟨rfl, _, World.drewN_drewN _ _ _⟩ | exact ⟨rfl, _, Eq.trans (World.drewN_drewN _ _ _) (congrArg (World.drewN _) (Nat.add_assoc _ _ _))⟩)))
       repeat (go_quiet (first | (go_at_call 58; (with_reducible refine (spec_l01Between.calls a0_1 1 256 true _ A5.out).mono ?_); rintro e w' ⟨rfl, ⟨nd, rfl⟩⟩; (try first | exact ⟨rfl, _, World.drewN_drewN _ _ _⟩ | exact ⟨rfl, _, Eq.trans (World.drewN_drewN _ _ _) (congrArg (World.drewN _) (Nat.add_assoc _ _ _))⟩)) | (go_at_call 58; (with_reducible refine (spec_l01Between.calls a0_2 1 256 true _ A7.out).mono ?_); rintro e w' ⟨rfl, ⟨nd, rfl⟩⟩; (try first | exact ⟨rfl, _, World.drewN_drewN _ _ _⟩ | exact ⟨rfl, _, Eq.trans (World.drewN_drewN _ _ _) (congrArg (World.drewN _) (Nat.add_assoc _ _ _))⟩)) | (go_at_call 58; (with_reducible refine (spec_l01Between.calls a0_3 0 255 true _ A11.out).mono ?_); rintro e w' ⟨rfl, ⟨nd, rfl⟩⟩; (try first | exact ⟨rfl, _, World.drewN_drewN _ _ _⟩ | exact ⟨rfl, _, Eq.trans (World.drewN_drewN _ _ _) (congrArg (World.drewN _) (Nat.add_assoc _ _ _))⟩)) | (go_at_call 58; (with_reducible refine (spec_l01Between.calls (l0_4.length : Int) 1 4 t119 _ A13.out).mono ?_); rintro e w' ⟨rfl, ⟨nd, rfl⟩⟩; (try first | exact ⟨rfl, _, World.drewN_drewN _ _ _⟩ | exact ⟨rfl, _, Eq.trans (World.drewN_drewN _ _ _) (congrArg (World.drewN _) (Nat.add_assoc _ _ _))⟩))); try go_wp2_with (first | (go_at_call 58; (with_reducible refine (spec_l01Between.calls a0_1 1 256 true _ A5.out).mono ?_); rintro e w' ⟨rfl, ⟨nd, rfl⟩⟩; (try first | exact ⟨rfl, _, World.drewN_drewN _ _ _⟩ | exact ⟨rfl, _, Eq.trans (World.drewN_drewN _ _ _) (congrArg (World.drewN _) (Nat.add_assoc _ _ _))⟩)) | (go_at_call 58; (with_reducible refine (spec_l01Between.calls a0_2 1 256 true _ A7.out).mono ?_); rintro e w' ⟨rfl, ⟨nd, rfl⟩⟩; (try first | exact ⟨rfl, _, World.drewN_drewN _ _ _⟩ | exact ⟨rfl, _, Eq.trans (World.drewN_drewN _ _ _) (congrArg (World.drewN _) (Nat.add_assoc _ _ _))⟩)) | (go_at_call 58; (with_reducible refine (spec_l01Between.calls a0_3 0 255 true _ A11.out).mono ?_); rintro e w' ⟨rfl, ⟨nd, rfl⟩⟩; (try first | exact ⟨rfl, _, World.drewN_drewN _ _ _⟩ | exact ⟨rfl, _, Eq.trans (World.drewN_drewN _ _ _) (congrArg (World.drewN _) (Nat.add_assoc _ _ _))⟩)) | (go_at_call 58; (with_reducible refine (spec_l01Between.calls (l0_4.length : Int) 1 4 t119 _ A13.out).mono ?_); rintro e w' ⟨rfl, ⟨nd, rfl⟩⟩; (try first | exact ⟨rfl, _, World.drewN_drewN _ _ _⟩ | exact ⟨rfl, _, Eq.trans (World.drewN_drewN _ _ _) (congrArg (World.drewN _) (Nat.add_assoc _ _ _))⟩))))
       go_meet
       case rel => exact ⟨_, (!t119), (by first | rfl | (simp; done) | (simp [*]; done)), H', ⟨by first | omega | exact Nat.le_refl _⟩, ⟨by (with_reducible repeat (first | refine zG ?_ _ | refine zH ?_ | refine zD ?_ _)); exact BK115.out⟩, ⟨by repeat (first | (with_reducible first | exact HB.out | apply zC | apply zB | apply zF | refine zE ?_ GE115.out) | exact HB.out)⟩⟩
      ·replace c12 := Bool.eq_false_iff.mpr c12
       subst c12
       have H1 : (spec_FrameOk.j0 k true a0_0 a0_1 a0_2 a0_3 l0_4) = some r := by rw [if_neg (show ¬ (false = true) by decide)] at H; exact H
       clear H
       have H := H1
       clear H1
       have H' := zA H
       clear H
       have hcz15_0 : w3.cell? ⟨gb115, 0, none⟩ = some (.int .i64 a0_0) := (zK BK115.out 0).trans rfl
       have hcz15_1 : w3.cell? ⟨gb115, 1, none⟩ = some (.int .i64 a0_1) := (zK BK115.out 1).trans rfl
       have hcz15_2 : w3.cell? ⟨gb115, 2, none⟩ = some (.int .i64 a0_2) := (zK BK115.out 2).trans rfl
       have hcz15_3 : w3.cell? ⟨gb115, 3, none⟩ = some (.int .i64 a0_3) := (zK BK115.out 3).trans rfl
       have hcz15_4 : w3.cell? ⟨gb115, 4, none⟩ = some (.slice A0_4 l0_4.length c0_4) := (zK BK115.out 4).trans rfl
       have hfz15_0 := zJ BK115.out 0
       have hfz15_1 := zJ BK115.out 1
       have hfz15_2 := zJ BK115.out 2
       have hfz15_3 := zJ BK115.out 3
       have hfz15_4 := zJ BK115.out 4
       go_wp2_with (first | (go_at_call 58; (with_reducible refine (spec_l01Between.calls a0_1 1 256 true _ A5.out).mono ?_); rintro e w' ⟨rfl, ⟨nd, rfl⟩⟩; (try first | exact ⟨rfl, _, World.drewN_drewN _ _ _⟩ | exact ⟨rfl, _, Eq.trans (World.drewN_drewN _ _ _) (congrArg (World.drewN _) (Nat.add_assoc _ _ _))⟩)) | (go_at_call 58; (with_reducible refine (spec_l01Between.calls a0_2 1 256 true _ A7.out).mono ?_); rintro e w' ⟨rfl, ⟨nd, rfl⟩⟩; (try first | exact ⟨rfl, _, World.drewN_drewN _ _ _⟩ | exact ⟨rfl, _, Eq.trans (World.drewN_drewN _ _ _) (congrArg (World.drewN _) (Nat.add_assoc _ _ _))⟩)) | (go_at_call 58; (with_reducible refine (spec_l01Between.calls a0_3 0 255 false _ A11.out).mono ?_); rintro e w' ⟨rfl, ⟨nd, rfl⟩⟩; (try first | exact ⟨rfl, _, World.drewN_drewN _ _ _⟩ | exact ⟨rfl, _, Eq.trans (World.drewN_drewN _ _ _) (congrArg (World.drewN _) (Nat.add_assoc _ _ _))⟩)))
       repeat (go_quiet (first | (go_at_call 58; (with_reducible refine (spec_l01Between.calls a0_1 1 256 true _ A5.out).mono ?_); rintro e w' ⟨rfl, ⟨nd, rfl⟩⟩; (try first | exact ⟨rfl, _, World.drewN_drewN _ _ _⟩ | exact ⟨rfl, _, Eq.trans (World.drewN_drewN _ _ _) (congrArg (World.drewN _) (Nat.add_assoc _ _ _))⟩)) | (go_at_call 58; (with_reducible refine (spec_l01Between.calls a0_2 1 256 true _ A7.out).mono ?_); rintro e w' ⟨rfl, ⟨nd, rfl⟩⟩; (try first | exact ⟨rfl, _, World.drewN_drewN _ _ _⟩ | exact ⟨rfl, _, Eq.trans (World.drewN_drewN _ _ _) (congrArg (World.drewN _) (Nat.add_assoc _ _ _))⟩)) | (go_at_call 58; (with_reducible refine (spec_l01Between.calls a0_3 0 255 false _ A11.out).mono ?_); rintro e w' ⟨rfl, ⟨nd, rfl⟩⟩; (try first | exact ⟨rfl, _, World.drewN_drewN _ _ _⟩ | exact ⟨rfl, _, Eq.trans (World.drewN_drewN _ _ _) (congrArg (World.drewN _) (Nat.add_assoc _ _ _))⟩))); try go_wp2_with (first | (go_at_call 58; (with_reducible refine (spec_l01Between.calls a0_1 1 256 true _ A5.out).mono ?_); rintro e w' ⟨rfl, ⟨nd, rfl⟩⟩; (try first | exact ⟨rfl, _, World.drewN_drewN _ _ _⟩ | exact ⟨rfl, _, Eq.trans (World.drewN_drewN _ _ _) (congrArg (World.drewN _) (Nat.add_assoc _ _ _))⟩)) | (go_at_call 58; (with_reducible refine (spec_l01Between.calls a0_2 1 256 true _ A7.out).mono ?_); rintro e w' ⟨rfl, ⟨nd, rfl⟩⟩; (try first | exact ⟨rfl, _, World.drewN_drewN _ _ _⟩ | exact ⟨rfl, _, Eq.trans (World.drewN_drewN _ _ _) (congrArg (World.drewN _) (Nat.add_assoc _ _ _))⟩)) | (go_at_call 58; (with_reducible refine (spec_l01Between.calls a0_3 0 255 false _ A11.out).mono ?_); rintro e w' ⟨rfl, ⟨nd, rfl⟩⟩; (try first | exact ⟨rfl, _, World.drewN_drewN _ _ _⟩ | exact ⟨rfl, _, Eq.trans (World.drewN_drewN _ _ _) (congrArg (World.drewN _) (Nat.add_assoc _ _ _))⟩))))
       go_meet
       case rel => exact ⟨_, (true), (by first | rfl | (simp; done) | (simp [*]; done)), H', ⟨by first | omega | exact Nat.le_refl _⟩, ⟨by (with_reducible repeat (first | refine zG ?_ _ | refine zH ?_ | refine zD ?_ _)); exact BK115.out⟩, ⟨by repeat (first | (with_reducible first | exact HB.out | apply zC | apply zB | apply zF | refine zE ?_ GE115.out) | exact HB.out)⟩⟩
    ·replace c8 := Bool.eq_false_iff.mpr c8
     subst c8
     have H1 : (spec_FrameOk.j0 k true a0_0 a0_1 a0_2 a0_3 l0_4) = some r := by rw [if_neg (show ¬ (false = true) by decide)] at H; exact H
     clear H
     have H := H1
     clear H1
     have H' := zA H
     clear H
     have hcz16_0 : w3.cell? ⟨gb115, 0, none⟩ = some (.int .i64 a0_0) := (zK BK115.out 0).trans rfl
     have hcz16_1 : w3.cell? ⟨gb115, 1, none⟩ = some (.int .i64 a0_1) := (zK BK115.out 1).trans rfl
     have hcz16_2 : w3.cell? ⟨gb115, 2, none⟩ = some (.int .i64 a0_2) := (zK BK115.out 2).trans rfl
     have hcz16_3 : w3.cell? ⟨gb115, 3, none⟩ = some (.int .i64 a0_3) := (zK BK115.out 3).trans rfl
     have hcz16_4 : w3.cell? ⟨gb115, 4, none⟩ = some (.slice A0_4 l0_4.length c0_4) := (zK BK115.out 4).trans rfl
     have hfz16_0 := zJ BK115.out 0
     have hfz16_1 := zJ BK115.out 1
     have hfz16_2 := zJ BK115.out 2
     have hfz16_3 := zJ BK115.out 3
     have hfz16_4 := zJ BK115.out 4
     go_wp2_with (first | (go_at_call 58; (with_reducible refine (spec_l01Between.calls a0_1 1 256 true _ A5.out).mono ?_); rintro e w' ⟨rfl, ⟨nd, rfl⟩⟩; (try first | exact ⟨rfl, _, World.drewN_drewN _ _ _⟩ | exact ⟨rfl, _, Eq.trans (World.drewN_drewN _ _ _) (congrArg (World.drewN _) (Nat.add_assoc _ _ _))⟩)) | (go_at_call 58; (with_reducible refine (spec_l01Between.calls a0_2 1 256 false _ A7.out).mono ?_); rintro e w' ⟨rfl, ⟨nd, rfl⟩⟩; (try first | exact ⟨rfl, _, World.drewN_drewN _ _ _⟩ | exact ⟨rfl, _, Eq.trans (World.drewN_drewN _ _ _) (congrArg (World.drewN _) (Nat.add_assoc _ _ _))⟩)))
     repeat (go_quiet (first | (go_at_call 58; (with_reducible refine (spec_l01Between.calls a0_1 1 256 true _ A5.out).mono ?_); rintro e w' ⟨rfl, ⟨nd, rfl⟩⟩; (try first | exact ⟨rfl, _, World.drewN_drewN _ _ _⟩ | exact ⟨rfl, _, Eq.trans (World.drewN_drewN _ _ _) (congrArg (World.drewN _) (Nat.add_assoc _ _ _))⟩)) | (go_at_call 58; (with_reducible refine (spec_l01Between.calls a0_2 1 256 false _ A7.out).mono ?_); rintro e w' ⟨rfl, ⟨nd, rfl⟩⟩; (try first | exact ⟨rfl, _, World.drewN_drewN _ _ _⟩ | exact ⟨rfl, _, Eq.trans (World.drewN_drewN _ _ _) (congrArg (World.drewN _) (Nat.add_assoc _ _ _))⟩))); try go_wp2_with (first | (go_at_call 58; (with_reducible refine (spec_l01Between.calls a0_1 1 256 true _ A5.out).mono ?_); rintro e w' ⟨rfl, ⟨nd, rfl⟩⟩; (try first | exact ⟨rfl, _, World.drewN_drewN _ _ _⟩ | exact ⟨rfl, _, Eq.trans (World.drewN_drewN _ _ _) (congrArg (World.drewN _) (Nat.add_assoc _ _ _))⟩)) | (go_at_call 58; (with_reducible refine (spec_l01Between.calls a0_2 1 256 false _ A7.out).mono ?_); rintro e w' ⟨rfl, ⟨nd, rfl⟩⟩; (try first | exact ⟨rfl, _, World.drewN_drewN _ _ _⟩ | exact ⟨rfl, _, Eq.trans (World.drewN_drewN _ _ _) (congrArg (World.drewN _) (Nat.add_assoc _ _ _))⟩))))
     go_meet
     case rel => exact ⟨_, (true), (by first | rfl | (simp; done) | (simp [*]; done)), H', ⟨by first | omega | exact Nat.le_refl _⟩, ⟨by (with_reducible repeat (first | refine zG ?_ _ | refine zH ?_ | refine zD ?_ _)); exact BK115.out⟩, ⟨by repeat (first | (with_reducible first | exact HB.out | apply zC | apply zB | apply zF | refine zE ?_ GE115.out) | exact HB.out)⟩⟩
   ·replace c6 := Bool.eq_false_iff.mpr c6
    subst c6
    have H1 : (spec_FrameOk.j0 k true a0_0 a0_1 a0_2 a0_3 l0_4) = some r := by rw [if_neg (show ¬ (false = true) by decide)] at H; exact H
    clear H
    have H := H1
    clear H1
    have H' := zA H
    clear H
    have hcz17_0 : w3.cell? ⟨gb115, 0, none⟩ = some (.int .i64 a0_0) := (zK BK115.out 0).trans rfl
    have hcz17_1 : w3.cell? ⟨gb115, 1, none⟩ = some (.int .i64 a0_1) := (zK BK115.out 1).trans rfl
    have hcz17_2 : w3.cell? ⟨gb115, 2, none⟩ = some (.int .i64 a0_2) := (zK BK115.out 2).trans rfl
    have hcz17_3 : w3.cell? ⟨gb115, 3, none⟩ = some (.int .i64 a0_3) := (zK BK115.out 3).trans rfl
    have hcz17_4 : w3.cell? ⟨gb115, 4, none⟩ = some (.slice A0_4 l0_4.length c0_4) := (zK BK115.out 4).trans rfl
    have hfz17_0 := zJ BK115.out 0
    have hfz17_1 := zJ BK115.out 1
    have hfz17_2 := zJ BK115.out 2
    have hfz17_3 := zJ BK115.out 3
    have hfz17_4 := zJ BK115.out 4
    go_wp2_with (first | (go_at_call 58; (with_reducible refine (spec_l01Between.calls a0_1 1 256 false _ A5.out).mono ?_); rintro e w' ⟨rfl, ⟨nd, rfl⟩⟩; (try first | exact ⟨rfl, _, World.drewN_drewN _ _ _⟩ | exact ⟨rfl, _, Eq.trans (World.drewN_drewN _ _ _) (congrArg (World.drewN _) (Nat.add_assoc _ _ _))⟩)))
    repeat (go_quiet (first | (go_at_call 58; (with_reducible refine (spec_l01Between.calls a0_1 1 256 false _ A5.out).mono ?_); rintro e w' ⟨rfl, ⟨nd, rfl⟩⟩; (try first | exact ⟨rfl, _, World.drewN_drewN _ _ _⟩ | exact ⟨rfl, _, Eq.trans (World.drewN_drewN _ _ _) (congrArg (World.drewN _) (Nat.add_assoc _ _ _))⟩))); try go_wp2_with (first | (go_at_call 58; (with_reducible refine (spec_l01Between.calls a0_1 1 256 false _ A5.out).mono ?_); rintro e w' ⟨rfl, ⟨nd, rfl⟩⟩; (try first | exact ⟨rfl, _, World.drewN_drewN _ _ _⟩ | exact ⟨rfl, _, Eq.trans (World.drewN_drewN _ _ _) (congrArg (World.drewN _) (Nat.add_assoc _ _ _))⟩))))
    go_meet
    case rel => exact ⟨_, (true), (by first | rfl | (simp; done) | (simp [*]; done)), H', ⟨by first | omega | exact Nat.le_refl _⟩, ⟨by (with_reducible repeat (first | refine zG ?_ _ | refine zH ?_ | refine zD ?_ _)); exact BK115.out⟩, ⟨by repeat (first | (with_reducible first | exact HB.out | apply zC | apply zB | apply zF | refine zE ?_ GE115.out) | exact HB.out)⟩⟩
  ·rw [if_neg c4] at H
   have c4b0 : (a0_0 == 8) = false := beq_eq_false_iff_ne.mpr c4
   have c4b1 : (a0_0 != 8) = true := bne_iff_ne.mpr c4
   (first | rw [c4b0] | (simp only [i64_w, i32_w]; rw [c4b0]) | skip)
   by_cases c18 : a0_0 = 12
   ·rw [if_pos c18] at H
    have c18b0 : (a0_0 == 12) = true := beq_iff_eq.mpr c18
    have c18b1 : (a0_0 != 12) = false := bne_eq_false_iff_eq.mpr c18
    clear c18
    replace H := Option.bind_eq_some_iff.mp H
    obtain ⟨t120, A190, H⟩ := H
    replace H : (if t120 = true then ((spec_l01Between.f a0_2 1 256).bind fun t121 => (if t121 = true then (if (wrap64 (a0_1 * a0_2)) > 16384 then (spec_FrameOk.j0 k true a0_0 a0_1 a0_2 a0_3 l0_4) else ((spec_l01Between.f a0_3 0 255).bind fun t122 => (if t122 = true then ((spec_l01Between.f (l0_4.length : Int) 1 4).bind fun t123 => (spec_FrameOk.j0 k (!t123) a0_0 a0_1 a0_2 a0_3 l0_4)) else (spec_FrameOk.j0 k true a0_0 a0_1 a0_2 a0_3 l0_4)))) else (spec_FrameOk.j0 k true a0_0 a0_1 a0_2 a0_3 l0_4))) else (spec_FrameOk.j0 k true a0_0 a0_1 a0_2 a0_3 l0_4)) = some r := H
    have A19 := zA A190
    clear A190
    by_cases c20 : t120 = true
    ·subst c20
     have H1 : ((spec_l01Between.f a0_2 1 256).bind fun t121 => (if t121 = true then (if (wrap64 (a0_1 * a0_2)) > 16384 then (spec_FrameOk.j0 k true a0_0 a0_1 a0_2 a0_3 l0_4) else ((spec_l01Between.f a0_3 0 255).bind fun t122 => (if t122 = true then ((spec_l01Between.f (l0_4.length : Int) 1 4).bind fun t123 => (spec_FrameOk.j0 k (!t123) a0_0 a0_1 a0_2 a0_3 l0_4)) else (spec_FrameOk.j0 k true a0_0 a0_1 a0_2 a0_3 l0_4)))) else (spec_FrameOk.j0 k true a0_0 a0_1 a0_2 a0_3 l0_4))) = some r := by rw [if_pos rfl] at H; exact H
     clear H
     have H := H1
     clear H1
     replace H := Option.bind_eq_some_iff.mp H
     obtain ⟨t121, A210, H⟩ := H
     replace H : (if t121 = true then (if (wrap64 (a0_1 * a0_2)) > 16384 then (spec_FrameOk.j0 k true a0_0 a0_1 a0_2 a0_3 l0_4) else ((spec_l01Between.f a0_3 0 255).bind fun t122 => (if t122 = true then ((spec_l01Between.f (l0_4.length : Int) 1 4).bind fun t123 => (spec_FrameOk.j0 k (!t123) a0_0 a0_1 a0_2 a0_3 l0_4)) else (spec_FrameOk.j0 k true a0_0 a0_1 a0_2 a0_3 l0_4)))) else (spec_FrameOk.j0 k true a0_0 a0_1 a0_2 a0_3 l0_4)) = some r := H
     have A21 := zA A210
     clear A210
     by_cases c22 : t121 = true
     ·subst c22
      have H1 : (if (wrap64 (a0_1 * a0_2)) > 16384 then (spec_FrameOk.j0 k true a0_0 a0_1 a0_2 a0_3 l0_4) else ((spec_l01Between.f a0_3 0 255).bind fun t122 => (if t122 = true then ((spec_l01Between.f (l0_4.length : Int) 1 4).bind fun t123 => (spec_FrameOk.j0 k (!t123) a0_0 a0_1 a0_2 a0_3 l0_4)) else (spec_FrameOk.j0 k true a0_0 a0_1 a0_2 a0_3 l0_4)))) = some r := by rw [if_pos rfl] at H; exact H
      clear H
      have H := H1
      clear H1
      by_cases c23 : (wrap64 (a0_1 * a0_2)) > 16384
      ·rw [if_pos c23] at H
       have c23b0 : decide (16384 < (wrap64 (a0_1 * a0_2))) = true := zT c23
       clear c23
       have H' := zA H
       clear H
       have hcz24_0 : w3.cell? ⟨gb115, 0, none⟩ = some (.int .i64 a0_0) := (zK BK115.out 0).trans rfl
       have hcz24_1 : w3.cell? ⟨gb115, 1, none⟩ = some (.int .i64 a0_1) := (zK BK115.out 1).trans rfl
       have hcz24_2 : w3.cell? ⟨gb115, 2, none⟩ = some (.int .i64 a0_2) := (zK BK115.out 2).trans rfl
       have hcz24_3 : w3.cell? ⟨gb115, 3, none⟩ = some (.int .i64 a0_3) := (zK BK115.out 3).trans rfl
       have hcz24_4 : w3.cell? ⟨gb115, 4, none⟩ = some (.slice A0_4 l0_4.length c0_4) := (zK BK115.out 4).trans rfl
       have hfz24_0 := zJ BK115.out 0
       have hfz24_1 := zJ BK115.out 1
       have hfz24_2 := zJ BK115.out 2
       have hfz24_3 := zJ BK115.out 3
       have hfz24_4 := zJ BK115.out 4
       go_wp2_with (first | (go_at_call 58; (with_reducible refine (spec_l01Between.calls a0_1 1 256 true _ A19.out).mono ?_); rintro e w' ⟨rfl, ⟨nd, rfl⟩⟩; (try first | exact ⟨rfl, _, World.drewN_drewN _ _ _⟩ | exact ⟨rfl, _, Eq.trans (World.drewN_drewN _ _ _) (congrArg (World.drewN _) (Nat.add_assoc _ _ _))⟩)) | (go_at_call 58; (with_reducible refine (spec_l01Between.calls a0_2 1 256 true _ A21.out).mono ?_); rintro e w' ⟨rfl, ⟨nd, rfl⟩⟩; (try first | exact ⟨rfl, _, World.drewN_drewN _ _ _⟩ | exact ⟨rfl, _, Eq.trans (World.drewN_drewN _ _ _) (congrArg (World.drewN _) (Nat.add_assoc _ _ _))⟩)))
       repeat (go_quiet (first | (go_at_call 58; (with_reducible refine (spec_l01Between.calls a0_1 1 256 true _ A19.out).mono ?_); rintro e w' ⟨rfl, ⟨nd, rfl⟩⟩; (try first | exact ⟨rfl, _, World.drewN_drewN _ _ _⟩ | exact ⟨rfl, _, Eq.trans (World.drewN_drewN _ _ _) (congrArg (World.drewN _) (Nat.add_assoc _ _ _))⟩)) | (go_at_call 58; (with_reducible refine (spec_l01Between.calls a0_2 1 256 true _ A21.out).mono ?_); rintro e w' ⟨rfl, ⟨nd, rfl⟩⟩; (try first | exact ⟨rfl, _, World.drewN_drewN _ _ _⟩ | exact ⟨rfl, _, Eq.trans (World.drewN_drewN _ _ _) (congrArg (World.drewN _) (Nat.add_assoc _ _ _))⟩))); try go_wp2_with (first | (go_at_call 58; (with_reducible refine (spec_l01Between.calls a0_1 1 256 true _ A19.out).mono ?_); rintro e w' ⟨rfl, ⟨nd, rfl⟩⟩; (try first | exact ⟨rfl, _, World.drewN_drewN _ _ _⟩ | exact ⟨rfl, _, Eq.trans (World.drewN_drewN _ _ _) (congrArg (World.drewN _) (Nat.add_assoc _ _ _))⟩)) | (go_at_call 58; (with_reducible refine (spec_l01Between.calls a0_2 1 256 true _ A21.out).mono ?_); rintro e w' ⟨rfl, ⟨nd, rfl⟩⟩; (try first | exact ⟨rfl, _, World.drewN_drewN _ _ _⟩ | exact ⟨rfl, _, Eq.trans (World.drewN_drewN _ _ _) (congrArg (World.drewN _) (Nat.add_assoc _ _ _))⟩))))
       go_meet
       case rel => exact ⟨_, (true), (by first | rfl | (simp; done) | (simp [*]; done)), H', ⟨by first | omega | exact Nat.le_refl _⟩, ⟨by (with_reducible repeat (first | refine zG ?_ _ | refine zH ?_ | refine zD ?_ _)); exact BK115.out⟩, ⟨by repeat (first | (with_reducible first | exact HB.out | apply zC | apply zB | apply zF | refine zE ?_ GE115.out) | exact HB.out)⟩⟩
      ·rw [if_neg c23] at H
       have c23b0 : decide (16384 < (wrap64 (a0_1 * a0_2))) = false := decide_eq_false c23
       clear c23
       replace H := Option.bind_eq_some_iff.mp H
       obtain ⟨t122, A250, H⟩ := H
       replace H : (if t122 = true then ((spec_l01Between.f (l0_4.length : Int) 1 4).bind fun t123 => (spec_FrameOk.j0 k (!t123) a0_0 a0_1 a0_2 a0_3 l0_4)) else (spec_FrameOk.j0 k true a0_0 a0_1 a0_2 a0_3 l0_4)) = some r := H
       have A25 := zA A250
       clear A250
       by_cases c26 : t122 = true
       ·subst c26
        have H1 : ((spec_l01Between.f (l0_4.length : Int) 1 4).bind fun t123 => (spec_FrameOk.j0 k (!t123) a0_0 a0_1 a0_2 a0_3 l0_4)) = some r := by rw [if_pos rfl] at H; exact H
        clear H
        have H := H1
        clear H1
        replace H := Option.bind_eq_some_iff.mp H
        obtain ⟨t123, A270, H⟩ := H
        replace H : (spec_FrameOk.j0 k (!t123) a0_0 a0_1 a0_2 a0_3 l0_4) = some r := H
        have A27 := zA A270
        clear A270
        have H' := zA H
        clear H
        have hcz28_0 : w3.cell? ⟨gb115, 0, none⟩ = some (.int .i64 a0_0) := (zK BK115.out 0).trans rfl
        have hcz28_1 : w3.cell? ⟨gb115, 1, none⟩ = some (.int .i64 a0_1) := (zK BK115.out 1).trans rfl
        have hcz28_2 : w3.cell? ⟨gb115, 2, none⟩ = some (.int .i64 a0_2) := (zK BK115.out 2).trans rfl
        have hcz28_3 : w3.cell? ⟨gb115, 3, none⟩ = some (.int .i64 a0_3) := (zK BK115.out 3).trans rfl
        have hcz28_4 : w3.cell? ⟨gb115, 4, none⟩ = some (.slice A0_4 l0_4.length c0_4) := (zK BK115.out 4).trans rfl
        have hfz28_0 := zJ BK115.out 0
        have hfz28_1 := zJ BK115.out 1
        have hfz28_2 := zJ BK115.out 2
        have hfz28_3 := zJ BK115.out 3
        have hfz28_4 := zJ BK115.out 4
        go_wp2_with (first | (go_at_call 58; (with_reducible refine (spec_l01Between.calls a0_1 1 256 true _ A19.out).mono ?_); rintro e w' ⟨rfl, ⟨nd, rfl⟩⟩; (try first | exact ⟨rfl, _, World.drewN_drewN _ _ _⟩ | exact ⟨rfl, _, Eq.trans (World.drewN_drewN _ _ _) (congrArg (World.drewN _) (Nat.add_assoc _ _ _))⟩)) | (go_at_call 58; (with_reducible refine (spec_l01Between.calls a0_2 1 256 true _ A21.out).mono ?_); rintro e w' ⟨rfl, ⟨nd, rfl⟩⟩; (try first | exact ⟨rfl, _, World.drewN_drewN _ _ _⟩ | exact ⟨rfl, _, Eq.trans (World.drewN_drewN _ _ _) (congrArg (World.drewN _) (Nat.add_assoc _ _ _))⟩)) | (go_at_call 58; (with_reducible refine (spec_l01Between.calls a0_3 0 255 true _ A25.out).mono ?_); rintro e w' ⟨rfl, ⟨nd, rfl⟩⟩; (try first | exact ⟨rfl, _, World.drewN_drewN _ _ _⟩ | exact ⟨rfl, _, Eq.trans (World.drewN_drewN _ _ _) (congrArg (World.drewN _) (Nat.add_assoc _ _ _))⟩)) | (go_at_call 58; (with_reducible refine (spec_l01Between.calls (l0_4.length : Int) 1 4 t123 _ A27.out).mono ?_); rintro e w' ⟨rfl, ⟨nd, rfl⟩⟩; (try first | exact ⟨rfl, _, World.drewN_drewN _ _ _⟩ | exact ⟨rfl, _, Eq.trans (World.drewN_drewN _ _ _) (congrArg (World.drewN _) (Nat.add_assoc _ _ _))⟩)))
        repeat (go_quiet (first | (go_at_call 58; (with_reducible refine (spec_l01Between.calls a0_1 1 256 true _ A19.out).mono ?_); rintro e w' ⟨rfl, ⟨nd, rfl⟩⟩; (try first | exact ⟨rfl, _, World.drewN_drewN _ _ _⟩ | exact ⟨rfl, _, Eq.trans (World.drewN_drewN _ _ _) (congrArg (World.drewN _) (Nat.add_assoc _ _ _))⟩)) | (go_at_call 58; (with_reducible refine (spec_l01Between.calls a0_2 1 256 true _ A21.out).mono ?_); rintro e w' ⟨rfl, ⟨nd, rfl⟩⟩; (try first | exact ⟨rfl, _, World.drewN_drewN _ _ _⟩ | exact ⟨rfl, _, Eq.trans (World.drewN_drewN _ _ _) (congrArg (World.drewN _) (Nat.add_assoc _ _ _))⟩)) | (go_at_call 58; (with_reducible refine (spec_l01Between.calls a0_3 0 255 true _ A25.out).mono ?_); rintro e w' ⟨rfl, ⟨nd, rfl⟩⟩; (try first | exact ⟨rfl, _, World.drewN_drewN _ _ _⟩ | exact ⟨rfl, _, Eq.trans (World.drewN_drewN _ _ _) (congrArg (World.drewN _) (Nat.add_assoc _ _ _))⟩)) | (go_at_call 58; (with_reducible refine (spec_l01Between.calls (l0_4.length : Int) 1 4 t123 _ A27.out).mono ?_); rintro e w' ⟨rfl, ⟨nd, rfl⟩⟩; (try first | exact ⟨rfl, _, World.drewN_drewN _ _ _⟩ | exact ⟨rfl, _, Eq.trans (World.drewN_drewN _ _ _) (congrArg (World.drewN _) (Nat.add_assoc _ _ _))⟩))); try go_wp2_with (first | (go_at_call 58; (with_reducible refine (spec_l01Between.calls a0_1 1 256 true _ A19.out).mono ?_); rintro e w' ⟨rfl, ⟨nd, rfl⟩⟩; (try first | exact ⟨rfl, _, World.drewN_drewN _ _ _⟩ | exact ⟨rfl, _, Eq.trans (World.drewN_drewN _ _ _) (congrArg (World.drewN _) (Nat.add_assoc _ _ _))⟩)) | (go_at_call 58; (with_reducible refine (spec_l01Between.calls a0_2 1 256 true _ A21.out).mono ?_); rintro e w' ⟨rfl, ⟨nd, rfl⟩⟩; (try first | exact ⟨rfl, _, World.drewN_drewN _ _ _⟩ | exact ⟨rfl, _, Eq.trans (World.drewN_drewN _ _ _) (congrArg (World.drewN _) (Nat.add_assoc _ _ _))⟩)) | (go_at_call 58; (with_reducible refine (spec_l01Between.calls a0_3 0 255 true _ A25.out).mono ?_); rintro e w' ⟨rfl, ⟨nd, rfl⟩⟩; (try first | exact ⟨rfl, _, World.drewN_drewN _ _ _⟩ | exact ⟨rfl, _, Eq.trans (World.drewN_drewN _ _ _) (congrArg (World.drewN _) (Nat.add_assoc _ _ _))⟩)) | (go_at_call 58; (with_reducible refine (spec_l01Between.calls (l0_4.length : Int) 1 4 t123 _ A27.out).mono ?_); rintro e w' ⟨rfl, ⟨nd, rfl⟩⟩; (try first | exact ⟨rfl, _, World.drewN_drewN _ _ _⟩ | exact ⟨rfl, _, Eq.trans (World.drewN_drewN _ _ _) (congrArg (World.drewN _) (Nat.add_assoc _ _ _))⟩))))
        go_meet
        case rel => exact ⟨_, (!t123), (by first | rfl | (simp; done) | (simp [*]; done)), H', ⟨by first | omega | exact Nat.le_refl _⟩, ⟨by (with_reducible repeat (first | refine zG ?_ _ | refine zH ?_ | refine zD ?_ _)); exact BK115.out⟩, ⟨by repeat (first | (with_reducible first | exact HB.out | apply zC | apply zB | apply zF | refine zE ?_ GE115.out) | exact HB.out)⟩⟩
       ·replace c26 := Bool.eq_false_iff.mpr c26
        subst c26
        have H1 : (spec_FrameOk.j0 k true a0_0 a0_1 a0_2 a0_3 l0_4) = some r := by rw [if_neg (show ¬ (false = true) by decide)] at H; exact H
        clear H
        have H := H1
        clear H1
        have H' := zA H
        clear H
        have hcz29_0 : w3.cell? ⟨gb115, 0, none⟩ = some (.int .i64 a0_0) := (zK BK115.out 0).trans rfl
        have hcz29_1 : w3.cell? ⟨gb115, 1, none⟩ = some (.int .i64 a0_1) := (zK BK115.out 1).trans rfl
        have hcz29_2 : w3.cell? ⟨gb115, 2, none⟩ = some (.int .i64 a0_2) := (zK BK115.out 2).trans rfl
        have hcz29_3 : w3.cell? ⟨gb115, 3, none⟩ = some (.int .i64 a0_3) := (zK BK115.out 3).trans rfl
        have hcz29_4 : w3.cell? ⟨gb115, 4, none⟩ = some (.slice A0_4 l0_4.length c0_4) := (zK BK115.out 4).trans rfl
        have hfz29_0 := zJ BK115.out 0
        have hfz29_1 := zJ BK115.out 1
        have hfz29_2 := zJ BK115.out 2
        have hfz29_3 := zJ BK115.out 3
        have hfz29_4 := zJ BK115.out 4
        go_wp2_with (first | (go_at_call 58; (with_reducible refine (spec_l01Between.calls a0_1 1 256 true _ A19.out).mono ?_); rintro e w' ⟨rfl, ⟨nd, rfl⟩⟩; (try first | exact ⟨rfl, _, World.drewN_drewN _ _ _⟩ | exact ⟨rfl, _, Eq.trans (World.drewN_drewN _ _ _) (congrArg (World.drewN _) (Nat.add_assoc _ _ _))⟩)) | (go_at_call 58; (with_reducible refine (spec_l01Between.calls a0_2 1 256 true _ A21.out).mono ?_); rintro e w' ⟨rfl, ⟨nd, rfl⟩⟩; (try first | exact ⟨rfl, _, World.drewN_drewN _ _ _⟩ | exact ⟨rfl, _, Eq.trans (World.drewN_drewN _ _ _) (congrArg (World.drewN _) (Nat.add_assoc _ _ _))⟩)) | (go_at_call 58; (with_reducible refine (spec_l01Between.calls a0_3 0 255 false _ A25.out).mono ?_); rintro e w' ⟨rfl, ⟨nd, rfl⟩⟩; (try first | exact ⟨rfl, _, World.drewN_drewN _ _ _⟩ | exact ⟨rfl, _, Eq.trans (World.drewN_drewN _ _ _) (congrArg (World.drewN _) (Nat.add_assoc _ _ _))⟩)))
        repeat (go_quiet (first | (go_at_call 58; (with_reducible refine (spec_l01Between.calls a0_1 1 256 true _ A19.out).mono ?_); rintro e w' ⟨rfl, ⟨nd, rfl⟩⟩; (try first | exact ⟨rfl, _, World.drewN_drewN _ _ _⟩ | exact ⟨rfl, _, Eq.trans (World.drewN_drewN _ _ _) (congrArg (World.drewN _) (Nat.add_assoc _ _ _))⟩)) | (go_at_call 58; (with_reducible refine (spec_l01Between.calls a0_2 1 256 true _ A21.out).mono ?_); rintro e w' ⟨rfl, ⟨nd, rfl⟩⟩; (try first | exact ⟨rfl, _, World.drewN_drewN _ _ _⟩ | exact ⟨rfl, _, Eq.trans (World.drewN_drewN _ _ _) (congrArg (World.drewN _) (Nat.add_assoc _ _ _))⟩)) | (go_at_call 58; (with_reducible refine (spec_l01Between.calls a0_3 0 255 false _ A25.out).mono ?_); rintro e w' ⟨rfl, ⟨nd, rfl⟩⟩; (try first | exact ⟨rfl, _, World.drewN_drewN _ _ _⟩ | exact ⟨rfl, _, Eq.trans (World.drewN_drewN _ _ _) (congrArg (World.drewN _) (Nat.add_assoc _ _ _))⟩))); try go_wp2_with (first | (go_at_call 58; (with_reducible refine (spec_l01Between.calls a0_1 1 256 true _ A19.out).mono ?_); rintro e w' ⟨rfl, ⟨nd, rfl⟩⟩; (try first | exact ⟨rfl, _, World.drewN_drewN _ _ _⟩ | exact ⟨rfl, _, Eq.trans (World.drewN_drewN _ _ _) (congrArg (World.drewN _) (Nat.add_assoc _ _ _))⟩)) | (go_at_call 58; (with_reducible refine (spec_l01Between.calls a0_2 1 256 true _ A21.out).mono ?_); rintro e w' ⟨rfl, ⟨nd, rfl⟩⟩; (try first | exact ⟨rfl, _, World.drewN_drewN _ _ _⟩ | exact ⟨rfl, _, Eq.trans (World.drewN_drewN _ _ _) (congrArg (World.drewN _) (Nat.add_assoc _ _ _))⟩)) | (go_at_call 58; (with_reducible refine (spec_l01Between.calls a0_3 0 255 false _ A25.out).mono ?_); rintro e w' ⟨rfl, ⟨nd, rfl⟩⟩; (try first | exact ⟨rfl, _, World.drewN_drewN _ _ _⟩ | exact ⟨rfl, _, Eq.trans (World.drewN_drewN _ _ _) (congrArg (World.drewN _) (Nat.add_assoc _ _ _))⟩))))
        go_meet
        case rel => exact ⟨_, (true), (by first | rfl | (simp; done) | (simp [*]; done)), H', ⟨by first | omega | exact Nat.le_refl _⟩, ⟨by (with_reducible repeat (first | refine zG ?_ _ | refine zH ?_ | refine zD ?_ _)); exact BK115.out⟩, ⟨by repeat (first | (with_reducible first | exact HB.out | apply zC | apply zB | apply zF | refine zE ?_ GE115.out) | exact HB.out)⟩⟩
     ·replace c22 := Bool.eq_false_iff.mpr c22
      subst c22
      have H1 : (spec_FrameOk.j0 k true a0_0 a0_1 a0_2 a0_3 l0_4) = some r := by rw [if_neg (show ¬ (false = true) by decide)] at H; exact H
      clear H
      have H := H1
      clear H1
      have H' := zA H
      clear H
      have hcz30_0 : w3.cell? ⟨gb115, 0, none⟩ = some (.int .i64 a0_0) := (zK BK115.out 0).trans rfl
      have hcz30_1 : w3.cell? ⟨gb115, 1, none⟩ = some (.int .i64 a0_1) := (zK BK115.out 1).trans rfl
      have hcz30_2 : w3.cell? ⟨gb115, 2, none⟩ = some (.int .i64 a0_2) := (zK BK115.out 2).trans rfl
      have hcz30_3 : w3.cell? ⟨gb115, 3, none⟩ = some (.int .i64 a0_3) := (zK BK115.out 3).trans rfl
      have hcz30_4 : w3.cell? ⟨gb115, 4, none⟩ = some (.slice A0_4 l0_4.length c0_4) := (zK BK115.out 4).trans rfl
      have hfz30_0 := zJ BK115.out 0
      have hfz30_1 := zJ BK115.out 1
      have hfz30_2 := zJ BK115.out 2
      have hfz30_3 := zJ BK115.out 3
      have hfz30_4 := zJ BK115.out 4
      go_wp2_with (first | (go_at_call 58; (with_reducible refine (spec_l01Between.calls a0_1 1 256 true _ A19.out).mono ?_); rintro e w' ⟨rfl, ⟨nd, rfl⟩⟩; (try first | exact ⟨rfl, _, World.drewN_drewN _ _ _⟩ | exact ⟨rfl, _, Eq.trans (World.drewN_drewN _ _ _) (congrArg (World.drewN _) (Nat.add_assoc _ _ _))⟩)) | (go_at_call 58; (with_reducible refine (spec_l01Between.calls a0_2 1 256 false _ A21.out).mono ?_); rintro e w' ⟨rfl, ⟨nd, rfl⟩⟩; (try first | exact ⟨rfl, _, World.drewN_drewN _ _ _⟩ | exact ⟨rfl, _, Eq.trans (World.drewN_drewN _ _ _) (congrArg (World.drewN _) (Nat.add_assoc _ _ _))⟩)))
      repeat (go_quiet (first | (go_at_call 58; (with_reducible refine (spec_l01Between.calls a0_1 1 256 true _ A19.out).mono ?_); rintro e w' ⟨rfl, ⟨nd, rfl⟩⟩; (try first | exact ⟨rfl, _, World.drewN_drewN _ _ _⟩ | exact ⟨rfl, _, Eq.trans (World.drewN_drewN _ _ _) (congrArg (World.drewN _) (Nat.add_assoc _ _ _))⟩)) | (go_at_call 58; (with_reducible refine (spec_l01Between.calls a0_2 1 256 false _ A21.out).mono ?_); rintro e w' ⟨rfl, ⟨nd, rfl⟩⟩; (try first | exact ⟨rfl, _, World.drewN_drewN _ _ _⟩ | exact ⟨rfl, _, Eq.trans (World.drewN_drewN _ _ _) (congrArg (World.drewN _) (Nat.add_assoc _ _ _))⟩))); try go_wp2_with (first | (go_at_call 58; (with_reducible refine (spec_l01Between.calls a0_1 1 256 true _ A19.out).mono ?_); rintro e w' ⟨rfl, ⟨nd, rfl⟩⟩; (try first | exact ⟨rfl, _, World.drewN_drewN _ _ _⟩ | exact ⟨rfl, _, Eq.trans (World.drewN_drewN _ _ _) (congrArg (World.drewN _) (Nat.add_assoc _ _ _))⟩)) | (go_at_call 58; (with_reducible refine (spec_l01Between.calls a0_2 1 256 false _ A21.out).mono ?_); rintro e w' ⟨rfl, ⟨nd, rfl⟩⟩; (try first | exact ⟨rfl, _, World.drewN_drewN _ _ _⟩ | exact ⟨rfl, _, Eq.trans (World.drewN_drewN _ _ _) (congrArg (World.drewN _) (Nat.add_assoc _ _ _))⟩))))
      go_meet
      case rel => exact ⟨_, (true), (by first | rfl | (simp; done) | (simp [*]; done)), H', ⟨by first | omega | exact Nat.le_refl _⟩, ⟨by (with_reducible repeat (first | refine zG ?_ _ | refine zH ?_ | refine zD ?_ _)); exact BK115.out⟩, ⟨by repeat (first | (with_reducible first | exact HB.out | apply zC | apply zB | apply zF | refine zE ?_ GE115.out) | exact HB.out)⟩⟩
    ·replace c20 := Bool.eq_false_iff.mpr c20
     subst c20
     have H1 : (spec_FrameOk.j0 k true a0_0 a0_1 a0_2 a0_3 l0_4) = some r := by rw [if_neg (show ¬ (false = true) by decide)] at H; exact H
     clear H
     have H := H1
     clear H1
     have H' := zA H
     clear H
     have hcz31_0 : w3.cell? ⟨gb115, 0, none⟩ = some (.int .i64 a0_0) := (zK BK115.out 0).trans rfl
     have hcz31_1 : w3.cell? ⟨gb115, 1, none⟩ = some (.int .i64 a0_1) := (zK BK115.out 1).trans rfl
     have hcz31_2 : w3.cell? ⟨gb115, 2, none⟩ = some (.int .i64 a0_2) := (zK BK115.out 2).trans rfl
     have hcz31_3 : w3.cell? ⟨gb115, 3, none⟩ = some (.int .i64 a0_3) := (zK BK115.out 3).trans rfl
     have hcz31_4 : w3.cell? ⟨gb115, 4, none⟩ = some (.slice A0_4 l0_4.length c0_4) := (zK BK115.out 4).trans rfl
     have hfz31_0 := zJ BK115.out 0
     have hfz31_1 := zJ BK115.out 1
     have hfz31_2 := zJ BK115.out 2
     have hfz31_3 := zJ BK115.out 3
     have hfz31_4 := zJ BK115.out 4
     go_wp2_with (first | (go_at_call 58; (with_reducible refine (spec_l01Between.calls a0_1 1 256 false _ A19.out).mono ?_); rintro e w' ⟨rfl, ⟨nd, rfl⟩⟩; (try first | exact ⟨rfl, _, World.drewN_drewN _ _ _⟩ | exact ⟨rfl, _, Eq.trans (World.drewN_drewN _ _ _) (congrArg (World.drewN _) (Nat.add_assoc _ _ _))⟩)))
     repeat (go_quiet (first | (go_at_call 58; (with_reducible refine (spec_l01Between.calls a0_1 1 256 false _ A19.out).mono ?_); rintro e w' ⟨rfl, ⟨nd, rfl⟩⟩; (try first | exact ⟨rfl, _, World.drewN_drewN _ _ _⟩ | exact ⟨rfl, _, Eq.trans (World.drewN_drewN _ _ _) (congrArg (World.drewN _) (Nat.add_assoc _ _ _))⟩))); try go_wp2_with (first | (go_at_call 58; (with_reducible refine (spec_l01Between.calls a0_1 1 256 false _ A19.out).mono ?_); rintro e w' ⟨rfl, ⟨nd, rfl⟩⟩; (try first | exact ⟨rfl, _, World.drewN_drewN _ _ _⟩ | exact ⟨rfl, _, Eq.trans (World.drewN_drewN _ _ _) (congrArg (World.drewN _) (Nat.add_assoc _ _ _))⟩))))
     go_meet
     case rel => exact ⟨_, (true), (by first | rfl | (simp; done) | (simp [*]; done)), H', ⟨by first | omega | exact Nat.le_refl _⟩, ⟨by (with_reducible repeat (first | refine zG ?_ _ | refine zH ?_ | refine zD ?_ _)); exact BK115.out⟩, ⟨by repeat (first | (with_reducible first | exact HB.out | apply zC | apply zB | apply zF | refine zE ?_ GE115.out) | exact HB.out)⟩⟩
   ·rw [if_neg c18] at H
    have c18b0 : (a0_0 == 12) = false := beq_eq_false_iff_ne.mpr c18
    have c18b1 : (a0_0 != 12) = true := bne_iff_ne.mpr c18
    have H' := zA H
    clear H
    have hcz32_0 : w3.cell? ⟨gb115, 0, none⟩ = some (.int .i64 a0_0) := (zK BK115.out 0).trans rfl
    have hcz32_1 : w3.cell? ⟨gb115, 1, none⟩ = some (.int .i64 a0_1) := (zK BK115.out 1).trans rfl
    have hcz32_2 : w3.cell? ⟨gb115, 2, none⟩ = some (.int .i64 a0_2) := (zK BK115.out 2).trans rfl
    have hcz32_3 : w3.cell? ⟨gb115, 3, none⟩ = some (.int .i64 a0_3) := (zK BK115.out 3).trans rfl
    have hcz32_4 : w3.cell? ⟨gb115, 4, none⟩ = some (.slice A0_4 l0_4.length c0_4) := (zK BK115.out 4).trans rfl
    have hfz32_0 := zJ BK115.out 0
    have hfz32_1 := zJ BK115.out 1
    have hfz32_2 := zJ BK115.out 2
    have hfz32_3 := zJ BK115.out 3
    have hfz32_4 := zJ BK115.out 4
    go_wp2
    repeat (go_quiet (fail); try go_wp2)
    go_meet
    case rel => exact ⟨_, (true), (by first | rfl | (simp; done) | (simp [*]; done)), H', ⟨by first | omega | exact Nat.le_refl _⟩, ⟨by (with_reducible repeat (first | refine zG ?_ _ | refine zH ?_ | refine zD ?_ _)); exact BK115.out⟩, ⟨by repeat (first | (with_reducible first | exact HB.out | apply zC | apply zB | apply zF | refine zE ?_ GE115.out) | exact HB.out)⟩⟩
 case rest =>
  clear HC2
  try clear c1
  try clear c2
  try clear p2
  try clear c4
  try clear c4b0
  try clear c4b1
  try clear c6
  try clear p6
  try clear c8
  try clear c9
  try clear c9b0
  try clear c12
  try clear c18
  try clear c18b0
  try clear c18b1
  try clear c20
  try clear c22
  try clear c23
  try clear c23b0
  try clear c26
  try clear hcz10_0
  try clear hcz10_1
  try clear hcz10_2
  try clear hcz10_3
  try clear hcz10_4
  try clear hcz14_0
  try clear hcz14_1
  try clear hcz14_2
  try clear hcz14_3
  try clear hcz14_4
  try clear hcz15_0
  try clear hcz15_1
  try clear hcz15_2
  try clear hcz15_3
  try clear hcz15_4
  try clear hcz16_0
  try clear hcz16_1
  try clear hcz16_2
  try clear hcz16_3
  try clear hcz16_4
  try clear hcz17_0
  try clear hcz17_1
  try clear hcz17_2
  try clear hcz17_3
  try clear hcz17_4
  try clear hcz24_0
  try clear hcz24_1
  try clear hcz24_2
  try clear hcz24_3
  try clear hcz24_4
  try clear hcz28_0
  try clear hcz28_1
  try clear hcz28_2
  try clear hcz28_3
  try clear hcz28_4
  try clear hcz29_0
  try clear hcz29_1
  try clear hcz29_2
  try clear hcz29_3
  try clear hcz29_4
  try clear hcz30_0
  try clear hcz30_1
  try clear hcz30_2
  try clear hcz30_3
  try clear hcz30_4
  try clear hcz31_0
  try clear hcz31_1
  try clear hcz31_2
  try clear hcz31_3
  try clear hcz31_4
  try clear hcz32_0
  try clear hcz32_1
  try clear hcz32_2
  try clear hcz32_3
  try clear hcz32_4
  try clear hfz10_0
  try clear hfz10_1
  try clear hfz10_2
  try clear hfz10_3
  try clear hfz10_4
  try clear hfz14_0
  try clear hfz14_1
  try clear hfz14_2
  try clear hfz14_3
  try clear hfz14_4
  try clear hfz15_0
  try clear hfz15_1
  try clear hfz15_2
  try clear hfz15_3
  try clear hfz15_4
  try clear hfz16_0
  try clear hfz16_1
  try clear hfz16_2
  try clear hfz16_3
  try clear hfz16_4
  try clear hfz17_0
  try clear hfz17_1
  try clear hfz17_2
  try clear hfz17_3
  try clear hfz17_4
  try clear hfz24_0
  try clear hfz24_1
  try clear hfz24_2
  try clear hfz24_3
  try clear hfz24_4
  try clear hfz28_0
  try clear hfz28_1
  try clear hfz28_2
  try clear hfz28_3
  try clear hfz28_4
  try clear hfz29_0
  try clear hfz29_1
  try clear hfz29_2
  try clear hfz29_3
  try clear hfz29_4
  try clear hfz30_0
  try clear hfz30_1
  try clear hfz30_2
  try clear hfz30_3
  try clear hfz30_4
  try clear hfz31_0
  try clear hfz31_1
  try clear hfz31_2
  try clear hfz31_3
  try clear hfz31_4
  try clear hfz32_0
  try clear hfz32_1
  try clear hfz32_2
  try clear hfz32_3
  try clear hfz32_4
  obtain ⟨kq, x47_1, rfl, HA, HJ1, BK115, HB⟩ := hcut
  cases kq with
  | zero => exact absurd HA.out (by simp [spec_FrameOk.j0])
  | succ kj1 =>
   have H := HA.out
   clear HA
   simp only [spec_FrameOk.j0] at H
   by_cases c33 : x47_1 = true
   ·subst c33
    have H1 : (some false) = some r := by rw [if_pos rfl] at H; exact H
    clear H
    have H := H1
    clear H1
    obtain rfl := Option.some.inj H
    go_wp2
    repeat (go_quiet (fail); try go_wp2)
    go_ret
    exact ⟨by first | rfl | (simp [errW_none, errW_some] <;> rfl) | (simp [*, errW_none, errW_some] <;> rfl), by repeat (first | (with_reducible first | exact HB.out | apply zC | apply zB | apply zF | refine zE ?_ GE115.out) | exact HB.out)⟩
   ·replace c33 := Bool.eq_false_iff.mpr c33
    subst c33
    have H1 : (spec_FrameOk.l0 kj1 0 0 a0_0 a0_1 a0_2 a0_3 l0_4) = some r := by rw [if_neg (show ¬ (false = true) by decide)] at H; exact H
    clear H
    have H := H1
    clear H1
    have H' := zA H
    clear H
    go_wp2
    repeat (go_quiet (fail); try go_wp2)
    go_loopg [3, 4] kj1 (fun kq v3 v4 w' => ∃ (x3_2 : Int) (x4_2 : Int), v3 = .int .i64 x3_2 ∧ v4 = .int .i64 x4_2 ∧ Aside0 (spec_FrameOk.l0 kq x3_2 x4_2 a0_0 a0_1 a0_2 a0_3 l0_4 = some r) ∧ Aside0 (kq ≤ kj1) ∧ Aside0 (w'.heap[gb115]? = some (.cells #[.int .i64 a0_0, .int .i64 a0_1, .int .i64 a0_2, .int .i64 a0_3, (.slice A0_4 l0_4.length c0_4)] 26 (0, 0))) ∧ Aside0 (Below w.heap.size w w'))
    case atStart => exact ⟨(0), (0), (by first | rfl | (simp; done) | (simp [*]; done)), (by first | rfl | (simp; done) | (simp [*]; done)), H', ⟨Nat.le_refl _⟩, ⟨by (with_reducible repeat (first | refine zG ?_ _ | refine zH ?_ | refine zD ?_ _)); exact BK115.out⟩, ⟨by repeat (first | (with_reducible first | exact HB.out | apply zC | apply zB | apply zF | refine zE ?_ GE115.out) | exact HB.out)⟩⟩
    case round =>
     clear H'
     try clear c1
     try clear c2
     try clear p2
     try clear c3
     try clear c4
     try clear c4b0
     try clear c4b1
     try clear c6
     try clear p6
     try clear c8
     try clear c9
     try clear c9b0
     try clear c12
     try clear c18
     try clear c18b0
     try clear c18b1
     try clear c20
     try clear c22
     try clear c23
     try clear c23b0
     try clear c26
     try clear c33
     try clear hcz10_0
     try clear hcz10_1
     try clear hcz10_2
     try clear hcz10_3
     try clear hcz10_4
     try clear hcz14_0
     try clear hcz14_1
     try clear hcz14_2
     try clear hcz14_3
     try clear hcz14_4
     try clear hcz15_0
     try clear hcz15_1
     try clear hcz15_2
     try clear hcz15_3
     try clear hcz15_4
     try clear hcz16_0
     try clear hcz16_1
     try clear hcz16_2
     try clear hcz16_3
     try clear hcz16_4
     try clear hcz17_0
     try clear hcz17_1
     try clear hcz17_2
     try clear hcz17_3
     try clear hcz17_4
     try clear hcz24_0
     try clear hcz24_1
     try clear hcz24_2
     try clear hcz24_3
     try clear hcz24_4
     try clear hcz28_0
     try clear hcz28_1
     try clear hcz28_2
     try clear hcz28_3
     try clear hcz28_4
     try clear hcz29_0
     try clear hcz29_1
     try clear hcz29_2
     try clear hcz29_3
     try clear hcz29_4
     try clear hcz30_0
     try clear hcz30_1
     try clear hcz30_2
     try clear hcz30_3
     try clear hcz30_4
     try clear hcz31_0
     try clear hcz31_1
     try clear hcz31_2
     try clear hcz31_3
     try clear hcz31_4
     try clear hcz32_0
     try clear hcz32_1
     try clear hcz32_2
     try clear hcz32_3
     try clear hcz32_4
     try clear hfz10_0
     try clear hfz10_1
     try clear hfz10_2
     try clear hfz10_3
     try clear hfz10_4
     try clear hfz14_0
     try clear hfz14_1
     try clear hfz14_2
     try clear hfz14_3
     try clear hfz14_4
     try clear hfz15_0
     try clear hfz15_1
     try clear hfz15_2
     try clear hfz15_3
     try clear hfz15_4
     try clear hfz16_0
     try clear hfz16_1
     try clear hfz16_2
     try clear hfz16_3
     try clear hfz16_4
     try clear hfz17_0
     try clear hfz17_1
     try clear hfz17_2
     try clear hfz17_3
     try clear hfz17_4
     try clear hfz24_0
     try clear hfz24_1
     try clear hfz24_2
     try clear hfz24_3
     try clear hfz24_4
     try clear hfz28_0
     try clear hfz28_1
     try clear hfz28_2
     try clear hfz28_3
     try clear hfz28_4
     try clear hfz29_0
     try clear hfz29_1
     try clear hfz29_2
     try clear hfz29_3
     try clear hfz29_4
     try clear hfz30_0
     try clear hfz30_1
     try clear hfz30_2
     try clear hfz30_3
     try clear hfz30_4
     try clear hfz31_0
     try clear hfz31_1
     try clear hfz31_2
     try clear hfz31_3
     try clear hfz31_4
     try clear hfz32_0
     try clear hfz32_1
     try clear hfz32_2
     try clear hfz32_3
     try clear hfz32_4
     try clear p2
     try clear p6
     obtain ⟨x3_2, x4_2, rfl, rfl, HA, HK2, BK115, HB⟩ := hrel
     cases gk with
     | zero => exact absurd HA.out (by simp [spec_FrameOk.l0])
     | succ k2 =>
      have H := HA.out
      clear HA
      simp only [spec_FrameOk.l0] at H
      by_cases c34 : x4_2 < (l0_4.length : Int)
      ·rw [if_pos c34] at H
       have c34b0 : decide (x4_2 < (l0_4.length : Int)) = true := zT c34
       clear c34
       by_cases c35 : 0 ≤ x4_2
       ·rw [if_pos c35] at H
        have c35b0 : decide (0 ≤ x4_2) = true := zT c35
        clear c35
        have HC36 := zA H
        clear H
        have hcz37_0 : wr.cell? ⟨gb115, 0, none⟩ = some (.int .i64 a0_0) := (zK BK115.out 0).trans rfl
        have hcz37_1 : wr.cell? ⟨gb115, 1, none⟩ = some (.int .i64 a0_1) := (zK BK115.out 1).trans rfl
        have hcz37_2 : wr.cell? ⟨gb115, 2, none⟩ = some (.int .i64 a0_2) := (zK BK115.out 2).trans rfl
        have hcz37_3 : wr.cell? ⟨gb115, 3, none⟩ = some (.int .i64 a0_3) := (zK BK115.out 3).trans rfl
        have hcz37_4 : wr.cell? ⟨gb115, 4, none⟩ = some (.slice A0_4 l0_4.length c0_4) := (zK BK115.out 4).trans rfl
        have hfz37_0 := zJ BK115.out 0
        have hfz37_1 := zJ BK115.out 1
        have hfz37_2 := zJ BK115.out 2
        have hfz37_3 := zJ BK115.out 3
        have hfz37_4 := zJ BK115.out 4
        have p124 : 0 ≤ (x4_2 : Int) := zI (by first | (with_reducible assumption) | assumption)
        have q124 : x4_2 < (l0_4.length : Int) := zI (by first | (with_reducible assumption) | assumption)
        obtain ⟨ad124, e124, hx124_0, hx124_1, hx124_2, hx124_3⟩ := at_T102 HR0_4.out x4_2 p124 q124
        cases e124
        replace hx124_0 := (HB.out.cell (World.block_lt_of_cell? w _ hx124_0)).trans hx124_0
        replace hx124_1 := (HB.out.cell (World.block_lt_of_cell? w _ hx124_1)).trans hx124_1
        replace hx124_2 := (HB.out.cell (World.block_lt_of_cell? w _ hx124_2)).trans hx124_2
        replace hx124_3 := (HB.out.cell (World.block_lt_of_cell? w _ hx124_3)).trans hx124_3
        replace p124 := eq_true p124
        replace q124 := eq_true q124
        go_upto_region 8 with (first | ((with_reducible refine gate_dst (N := 5) rfl ?_); (try (refine gate_guard (by rfl) ?_; dsimp only)); refine box_event ?hg (N := 5) ?hd (cs := #[.int .i64 0, .int .i64 0, .int .i64 0, .int .i64 0]) (t := 102) ?hr ?_; (case hd => rfl); (case hg => rfl); (case hr => first | (go_simp; done) | (go_simp; rfl)); intro gb125 hg w38 hbox hb; have n0_ := zA (blk_below (g := gb115) (o := .cells #[.int .i64 a0_0, .int .i64 a0_1, .int .i64 a0_2, .int .i64 a0_3, .slice (some ad124) l0_4.length c0_4] 26 (0, 0)) (by (with_reducible repeat (first | refine zG ?_ _ | refine zH ?_ | refine zD ?_ _)); exact BK115.out) hb); have n1_ := zA (below_step (by repeat (first | (with_reducible first | exact HB.out | apply zC | apply zB | apply zF | refine zE ?_ GE115.out) | exact HB.out)) hb); have n2_ := zA (hbox); have n3_ := zA ((by rw [hg]; exact (zL (by repeat (first | (with_reducible first | exact HB.out | apply zC | apply zB | apply zF | refine zE ?_ GE115.out) | exact HB.out))) : w.heap.size ≤ gb125)); have n4_ := zA ((by rw [hg]; exact (zL (by repeat (first | (with_reducible first | exact HB.out | apply zC | apply zB | apply zF | refine zE ?_ GE115.out) | exact HB.out))) : w.heap.size ≤ gb125)); have n5_ := zA ((by rw [hg]; exact Nat.ne_of_lt (blk_lt (g := gb115) (o := .cells #[.int .i64 a0_0, .int .i64 a0_1, .int .i64 a0_2, .int .i64 a0_3, .slice (some ad124) l0_4.length c0_4] 26 (0, 0)) (by (with_reducible repeat (first | refine zG ?_ _ | refine zH ?_ | refine zD ?_ _)); exact BK115.out)) : gb115 ≠ gb125)); have n6_ := zA ((by rw [hg]; exact Nat.ne_of_gt (blk_lt (g := gb115) (o := .cells #[.int .i64 a0_0, .int .i64 a0_1, .int .i64 a0_2, .int .i64 a0_3, .slice (some ad124) l0_4.length c0_4] 26 (0, 0)) (by (with_reducible repeat (first | refine zG ?_ _ | refine zH ?_ | refine zD ?_ _)); exact BK115.out)) : gb125 ≠ gb115)); clear BK115; clear HB; have BK115 := n0_; have HB := n1_; have BK125 := n2_; have GW125 := n3_; have GE125 := n4_; have NB115_125 := n5_; have NB125_115 := n6_; clear n0_ n1_ n2_ n3_ n4_ n5_ n6_; clear hb hbox hg; have hnb39 := NB125_115.out; have hnc39 := NB115_125.out; have hcz40_0 : w38.cell? ⟨gb125, 0, none⟩ = some (.int .i64 0) := (zK BK125.out 0).trans rfl; have hcz40_1 : w38.cell? ⟨gb125, 1, none⟩ = some (.int .i64 0) := (zK BK125.out 1).trans rfl; have hcz40_2 : w38.cell? ⟨gb125, 2, none⟩ = some (.int .i64 0) := (zK BK125.out 2).trans rfl; have hcz40_3 : w38.cell? ⟨gb125, 3, none⟩ = some (.int .i64 0) := (zK BK125.out 3).trans rfl; have hfz40_0 := zJ BK125.out 0; have hfz40_1 := zJ BK125.out 1; have hfz40_2 := zJ BK125.out 2; have hfz40_3 := zJ BK125.out 3))
        repeat (go_quiet (first | ((with_reducible refine gate_dst (N := 5) rfl ?_); (try (refine gate_guard (by rfl) ?_; dsimp only)); refine box_event ?hg (N := 5) ?hd (cs := #[.int .i64 0, .int .i64 0, .int .i64 0, .int .i64 0]) (t := 102) ?hr ?_; (case hd => rfl); (case hg => rfl); (case hr => first | (go_simp; done) | (go_simp; rfl)); intro gb125 hg w38 hbox hb; have n0_ := zA (blk_below (g := gb115) (o := .cells #[.int .i64 a0_0, .int .i64 a0_1, .int .i64 a0_2, .int .i64 a0_3, .slice (some ad124) l0_4.length c0_4] 26 (0, 0)) (by (with_reducible repeat (first | refine zG ?_ _ | refine zH ?_ | refine zD ?_ _)); exact BK115.out) hb); have n1_ := zA (below_step (by repeat (first | (with_reducible first | exact HB.out | apply zC | apply zB | apply zF | refine zE ?_ GE115.out) | exact HB.out)) hb); have n2_ := zA (hbox); have n3_ := zA ((by rw [hg]; exact (zL (by repeat (first | (with_reducible first | exact HB.out | apply zC | apply zB | apply zF | refine zE ?_ GE115.out) | exact HB.out))) : w.heap.size ≤ gb125)); have n4_ := zA ((by rw [hg]; exact (zL (by repeat (first | (with_reducible first | exact HB.out | apply zC | apply zB | apply zF | refine zE ?_ GE115.out) | exact HB.out))) : w.heap.size ≤ gb125)); have n5_ := zA ((by rw [hg]; exact Nat.ne_of_lt (blk_lt (g := gb115) (o := .cells #[.int .i64 a0_0, .int .i64 a0_1, .int .i64 a0_2, .int .i64 a0_3, .slice (some ad124) l0_4.length c0_4] 26 (0, 0)) (by (with_reducible repeat (first | refine zG ?_ _ | refine zH ?_ | refine zD ?_ _)); exact BK115.out)) : gb115 ≠ gb125)); have n6_ := zA ((by rw [hg]; exact Nat.ne_of_gt (blk_lt (g := gb115) (o := .cells #[.int .i64 a0_0, .int .i64 a0_1, .int .i64 a0_2, .int .i64 a0_3, .slice (some ad124) l0_4.length c0_4] 26 (0, 0)) (by (with_reducible repeat (first | refine zG ?_ _ | refine zH ?_ | refine zD ?_ _)); exact BK115.out)) : gb125 ≠ gb115)); clear BK115; clear HB; have BK115 := n0_; have HB := n1_; have BK125 := n2_; have GW125 := n3_; have GE125 := n4_; have NB115_125 := n5_; have NB125_115 := n6_; clear n0_ n1_ n2_ n3_ n4_ n5_ n6_; clear hb hbox hg; have hnb39 := NB125_115.out; have hnc39 := NB115_125.out; have hcz40_0 : w38.cell? ⟨gb125, 0, none⟩ = some (.int .i64 0) := (zK BK125.out 0).trans rfl; have hcz40_1 : w38.cell? ⟨gb125, 1, none⟩ = some (.int .i64 0) := (zK BK125.out 1).trans rfl; have hcz40_2 : w38.cell? ⟨gb125, 2, none⟩ = some (.int .i64 0) := (zK BK125.out 2).trans rfl; have hcz40_3 : w38.cell? ⟨gb125, 3, none⟩ = some (.int .i64 0) := (zK BK125.out 3).trans rfl; have hfz40_0 := zJ BK125.out 0; have hfz40_1 := zJ BK125.out 1; have hfz40_2 := zJ BK125.out 2; have hfz40_3 := zJ BK125.out 3)); go_upto_region 8 with (first | ((with_reducible refine gate_dst (N := 5) rfl ?_); (try (refine gate_guard (by rfl) ?_; dsimp only)); refine box_event ?hg (N := 5) ?hd (cs := #[.int .i64 0, .int .i64 0, .int .i64 0, .int .i64 0]) (t := 102) ?hr ?_; (case hd => rfl); (case hg => rfl); (case hr => first | (go_simp; done) | (go_simp; rfl)); intro gb125 hg w38 hbox hb; have n0_ := zA (blk_below (g := gb115) (o := .cells #[.int .i64 a0_0, .int .i64 a0_1, .int .i64 a0_2, .int .i64 a0_3, .slice (some ad124) l0_4.length c0_4] 26 (0, 0)) (by (with_reducible repeat (first | refine zG ?_ _ | refine zH ?_ | refine zD ?_ _)); exact BK115.out) hb); have n1_ := zA (below_step (by repeat (first | (with_reducible first | exact HB.out | apply zC | apply zB | apply zF | refine zE ?_ GE115.out) | exact HB.out)) hb); have n2_ := zA (hbox); have n3_ := zA ((by rw [hg]; exact (zL (by repeat (first | (with_reducible first | exact HB.out | apply zC | apply zB | apply zF | refine zE ?_ GE115.out) | exact HB.out))) : w.heap.size ≤ gb125)); have n4_ := zA ((by rw [hg]; exact (zL (by repeat (first | (with_reducible first | exact HB.out | apply zC | apply zB | apply zF | refine zE ?_ GE115.out) | exact HB.out))) : w.heap.size ≤ gb125)); have n5_ := zA ((by rw [hg]; exact Nat.ne_of_lt (blk_lt (g := gb115) (o := .cells #[.int .i64 a0_0, .int .i64 a0_1, .int .i64 a0_2, .int .i64 a0_3, .slice (some ad124) l0_4.length c0_4] 26 (0, 0)) (by (with_reducible repeat (first | refine zG ?_ _ | refine zH ?_ | refine zD ?_ _)); exact BK115.out)) : gb115 ≠ gb125)); have n6_ := zA ((by rw [hg]; exact Nat.ne_of_gt (blk_lt (g := gb115) (o := .cells #[.int .i64 a0_0, .int .i64 a0_1, .int .i64 a0_2, .int .i64 a0_3, .slice (some ad124) l0_4.length c0_4] 26 (0, 0)) (by (with_reducible repeat (first | refine zG ?_ _ | refine zH ?_ | refine zD ?_ _)); exact BK115.out)) : gb125 ≠ gb115)); clear BK115; clear HB; have BK115 := n0_; have HB := n1_; have BK125 := n2_; have GW125 := n3_; have GE125 := n4_; have NB115_125 := n5_; have NB125_115 := n6_; clear n0_ n1_ n2_ n3_ n4_ n5_ n6_; clear hb hbox hg; have hnb39 := NB125_115.out; have hnc39 := NB115_125.out; have hcz40_0 : w38.cell? ⟨gb125, 0, none⟩ = some (.int .i64 0) := (zK BK125.out 0).trans rfl; have hcz40_1 : w38.cell? ⟨gb125, 1, none⟩ = some (.int .i64 0) := (zK BK125.out 1).trans rfl; have hcz40_2 : w38.cell? ⟨gb125, 2, none⟩ = some (.int .i64 0) := (zK BK125.out 2).trans rfl; have hcz40_3 : w38.cell? ⟨gb125, 3, none⟩ = some (.int .i64 0) := (zK BK125.out 3).trans rfl; have hfz40_0 := zJ BK125.out 0; have hfz40_1 := zJ BK125.out 1; have hfz40_2 := zJ BK125.out 2; have hfz40_3 := zJ BK125.out 3)))
        (try simp only [Act.put, List.setIfInBounds_toArray, List.set_cons_zero, List.set_cons_succ])
        go_cut [81] (fun v81 wc => ∃ (kq : Nat) (x81_35 : Bool), v81 = .bool x81_35 ∧ Aside0 (spec_FrameOk.j2 kq x3_2 x4_2 x81_35 a0_0 a0_1 a0_2 a0_3 l0_4 ((rd_T102 l0_4 x4_2).f0) ((rd_T102 l0_4 x4_2).f1) ((rd_T102 l0_4 x4_2).f2) ((rd_T102 l0_4 x4_2).f3) = some r) ∧ Aside0 (kq ≤ k2) ∧ Aside0 (wc.heap[gb115]? = some (.cells #[.int .i64 a0_0, .int .i64 a0_1, .int .i64 a0_2, .int .i64 a0_3, (.slice (some ad124) l0_4.length c0_4)] 26 (0, 0))) ∧ Aside0 (wc.heap[gb125]? = some (.cells #[.int .i64 ((rd_T102 l0_4 x4_2).f0), .int .i64 ((rd_T102 l0_4 x4_2).f1), .int .i64 ((rd_T102 l0_4 x4_2).f2), .int .i64 ((rd_T102 l0_4 x4_2).f3)] 102 (0, 0))) ∧ Aside0 (Below w.heap.size w wc))
        case first =>
         have H := HC36.out
         clear HC36
         replace H := Option.bind_eq_some_iff.mp H
         obtain ⟨t126, A410, H⟩ := H
         replace H : (if t126 = true then ((spec_l01Between.f ((rd_T102 l0_4 x4_2).f1) 1 4).bind fun t127 => (if t127 = true then ((spec_l01Between.f ((rd_T102 l0_4 x4_2).f2) 1 4).bind fun t128 => (if t128 = true then ((spec_l01Between.f ((rd_T102 l0_4 x4_2).f3) 0 3).bind fun t129 => (spec_FrameOk.j2 k2 x3_2 x4_2 (!t129) a0_0 a0_1 a0_2 a0_3 l0_4 ((rd_T102 l0_4 x4_2).f0) ((rd_T102 l0_4 x4_2).f1) ((rd_T102 l0_4 x4_2).f2) ((rd_T102 l0_4 x4_2).f3))) else (spec_FrameOk.j2 k2 x3_2 x4_2 true a0_0 a0_1 a0_2 a0_3 l0_4 ((rd_T102 l0_4 x4_2).f0) ((rd_T102 l0_4 x4_2).f1) ((rd_T102 l0_4 x4_2).f2) ((rd_T102 l0_4 x4_2).f3)))) else (spec_FrameOk.j2 k2 x3_2 x4_2 true a0_0 a0_1 a0_2 a0_3 l0_4 ((rd_T102 l0_4 x4_2).f0) ((rd_T102 l0_4 x4_2).f1) ((rd_T102 l0_4 x4_2).f2) ((rd_T102 l0_4 x4_2).f3)))) else (spec_FrameOk.j2 k2 x3_2 x4_2 true a0_0 a0_1 a0_2 a0_3 l0_4 ((rd_T102 l0_4 x4_2).f0) ((rd_T102 l0_4 x4_2).f1) ((rd_T102 l0_4 x4_2).f2) ((rd_T102 l0_4 x4_2).f3))) = some r := H
         have A41 := zA A410
         clear A410
         by_cases c42 : t126 = true
         ·subst c42
          have H1 : ((spec_l01Between.f ((rd_T102 l0_4 x4_2).f1) 1 4).bind fun t127 => (if t127 = true then ((spec_l01Between.f ((rd_T102 l0_4 x4_2).f2) 1 4).bind fun t128 => (if t128 = true then ((spec_l01Between.f ((rd_T102 l0_4 x4_2).f3) 0 3).bind fun t129 => (spec_FrameOk.j2 k2 x3_2 x4_2 (!t129) a0_0 a0_1 a0_2 a0_3 l0_4 ((rd_T102 l0_4 x4_2).f0) ((rd_T102 l0_4 x4_2).f1) ((rd_T102 l0_4 x4_2).f2) ((rd_T102 l0_4 x4_2).f3))) else (spec_FrameOk.j2 k2 x3_2 x4_2 true a0_0 a0_1 a0_2 a0_3 l0_4 ((rd_T102 l0_4 x4_2).f0) ((rd_T102 l0_4 x4_2).f1) ((rd_T102 l0_4 x4_2).f2) ((rd_T102 l0_4 x4_2).f3)))) else (spec_FrameOk.j2 k2 x3_2 x4_2 true a0_0 a0_1 a0_2 a0_3 l0_4 ((rd_T102 l0_4 x4_2).f0) ((rd_T102 l0_4 x4_2).f1) ((rd_T102 l0_4 x4_2).f2) ((rd_T102 l0_4 x4_2).f3)))) = some r := by rw [if_pos rfl] at H; exact H
          clear H
          have H := H1
          clear H1
          replace H := Option.bind_eq_some_iff.mp H
          obtain ⟨t127, A430, H⟩ := H
          replace H : (if t127 = true then ((spec_l01Between.f ((rd_T102 l0_4 x4_2).f2) 1 4).bind fun t128 => (if t128 = true then ((spec_l01Between.f ((rd_T102 l0_4 x4_2).f3) 0 3).bind fun t129 => (spec_FrameOk.j2 k2 x3_2 x4_2 (!t129) a0_0 a0_1 a0_2 a0_3 l0_4 ((rd_T102 l0_4 x4_2).f0) ((rd_T102 l0_4 x4_2).f1) ((rd_T102 l0_4 x4_2).f2) ((rd_T102 l0_4 x4_2).f3))) else (spec_FrameOk.j2 k2 x3_2 x4_2 true a0_0 a0_1 a0_2 a0_3 l0_4 ((rd_T102 l0_4 x4_2).f0) ((rd_T102 l0_4 x4_2).f1) ((rd_T102 l0_4 x4_2).f2) ((rd_T102 l0_4 x4_2).f3)))) else (spec_FrameOk.j2 k2 x3_2 x4_2 true a0_0 a0_1 a0_2 a0_3 l0_4 ((rd_T102 l0_4 x4_2).f0) ((rd_T102 l0_4 x4_2).f1) ((rd_T102 l0_4 x4_2).f2) ((rd_T102 l0_4 x4_2).f3))) = some r := H
          have A43 := zA A430
          clear A430
          by_cases c44 : t127 = true
          ·subst c44
           have H1 : ((spec_l01Between.f ((rd_T102 l0_4 x4_2).f2) 1 4).bind fun t128 => (if t128 = true then ((spec_l01Between.f ((rd_T102 l0_4 x4_2).f3) 0 3).bind fun t129 => (spec_FrameOk.j2 k2 x3_2 x4_2 (!t129) a0_0 a0_1 a0_2 a0_3 l0_4 ((rd_T102 l0_4 x4_2).f0) ((rd_T102 l0_4 x4_2).f1) ((rd_T102 l0_4 x4_2).f2) ((rd_T102 l0_4 x4_2).f3))) else (spec_FrameOk.j2 k2 x3_2 x4_2 true a0_0 a0_1 a0_2 a0_3 l0_4 ((rd_T102 l0_4 x4_2).f0) ((rd_T102 l0_4 x4_2).f1) ((rd_T102 l0_4 x4_2).f2) ((rd_T102 l0_4 x4_2).f3)))) = some r := by rw [if_pos rfl] at H; exact H
           clear H
           have H := H1
           clear H1
           replace H := Option.bind_eq_some_iff.mp H
           obtain ⟨t128, A450, H⟩ := H
           replace H : (if t128 = true then ((spec_l01Between.f ((rd_T102 l0_4 x4_2).f3) 0 3).bind fun t129 => (spec_FrameOk.j2 k2 x3_2 x4_2 (!t129) a0_0 a0_1 a0_2 a0_3 l0_4 ((rd_T102 l0_4 x4_2).f0) ((rd_T102 l0_4 x4_2).f1) ((rd_T102 l0_4 x4_2).f2) ((rd_T102 l0_4 x4_2).f3))) else (spec_FrameOk.j2 k2 x3_2 x4_2 true a0_0 a0_1 a0_2 a0_3 l0_4 ((rd_T102 l0_4 x4_2).f0) ((rd_T102 l0_4 x4_2).f1) ((rd_T102 l0_4 x4_2).f2) ((rd_T102 l0_4 x4_2).f3))) = some r := H
           have A45 := zA A450
           clear A450
           by_cases c46 : t128 = true
           ·subst c46
            have H1 : ((spec_l01Between.f ((rd_T102 l0_4 x4_2).f3) 0 3).bind fun t129 => (spec_FrameOk.j2 k2 x3_2 x4_2 (!t129) a0_0 a0_1 a0_2 a0_3 l0_4 ((rd_T102 l0_4 x4_2).f0) ((rd_T102 l0_4 x4_2).f1) ((rd_T102 l0_4 x4_2).f2) ((rd_T102 l0_4 x4_2).f3))) = some r := by rw [if_pos rfl] at H; exact H
            clear H
            have H := H1
            clear H1
            replace H := Option.bind_eq_some_iff.mp H
            obtain ⟨t129, A470, H⟩ := H
            replace H : (spec_FrameOk.j2 k2 x3_2 x4_2 (!t129) a0_0 a0_1 a0_2 a0_3 l0_4 ((rd_T102 l0_4 x4_2).f0) ((rd_T102 l0_4 x4_2).f1) ((rd_T102 l0_4 x4_2).f2) ((rd_T102 l0_4 x4_2).f3)) = some r := H
            have A47 := zA A470
            clear A470
            have H' := zA H
            clear H
            have hnb48 := NB125_115.out
            have hnc48 := NB115_125.out
            have hcz49_0 : w38.cell? ⟨gb125, 0, none⟩ = some (.int .i64 0) := (zK BK125.out 0).trans rfl
            have hcz49_1 : w38.cell? ⟨gb125, 1, none⟩ = some (.int .i64 0) := (zK BK125.out 1).trans rfl
            have hcz49_2 : w38.cell? ⟨gb125, 2, none⟩ = some (.int .i64 0) := (zK BK125.out 2).trans rfl
            have hcz49_3 : w38.cell? ⟨gb125, 3, none⟩ = some (.int .i64 0) := (zK BK125.out 3).trans rfl
            have hfz49_0 := zJ BK125.out 0
            have hfz49_1 := zJ BK125.out 1
            have hfz49_2 := zJ BK125.out 2
            have hfz49_3 := zJ BK125.out 3
            go_wp2_with (first | (go_at_call 58; (with_reducible refine (spec_l01Between.calls ((rd_T102 l0_4 x4_2).f0) 0 255 true _ A41.out).mono ?_); rintro e w' ⟨rfl, ⟨nd, rfl⟩⟩; (try first | exact ⟨rfl, _, World.drewN_drewN _ _ _⟩ | exact ⟨rfl, _, Eq.trans (World.drewN_drewN _ _ _) (congrArg (World.drewN _) (Nat.add_assoc _ _ _))⟩)) | (go_at_call 58; (with_reducible refine (spec_l01Between.calls ((rd_T102 l0_4 x4_2).f1) 1 4 true _ A43.out).mono ?_); rintro e w' ⟨rfl, ⟨nd, rfl⟩⟩; (try first | exact ⟨rfl, _, World.drewN_drewN _ _ _⟩ | exact ⟨rfl, _, Eq.trans (World.drewN_drewN _ _ _) (congrArg (World.drewN _) (Nat.add_assoc _ _ _))⟩)) | (go_at_call 58; (with_reducible refine (spec_l01Between.calls ((rd_T102 l0_4 x4_2).f2) 1 4 true _ A45.out).mono ?_); rintro e w' ⟨rfl, ⟨nd, rfl⟩⟩; (try first | exact ⟨rfl, _, World.drewN_drewN _ _ _⟩ | exact ⟨rfl, _, Eq.trans (World.drewN_drewN _ _ _) (congrArg (World.drewN _) (Nat.add_assoc _ _ _))⟩)) | (go_at_call 58; (with_reducible refine (spec_l01Between.calls ((rd_T102 l0_4 x4_2).f3) 0 3 t129 _ A47.out).mono ?_); rintro e w' ⟨rfl, ⟨nd, rfl⟩⟩; (try first | exact ⟨rfl, _, World.drewN_drewN _ _ _⟩ | exact ⟨rfl, _, Eq.trans (World.drewN_drewN _ _ _) (congrArg (World.drewN _) (Nat.add_assoc _ _ _))⟩)))
            repeat (go_quiet (first | (go_at_call 58; (with_reducible refine (spec_l01Between.calls ((rd_T102 l0_4 x4_2).f0) 0 255 true _ A41.out).mono ?_); rintro e w' ⟨rfl, ⟨nd, rfl⟩⟩; (try first | exact ⟨rfl, _, World.drewN_drewN _ _ _⟩ | exact ⟨rfl, _, Eq.trans (World.drewN_drewN _ _ _) (congrArg (World.drewN _) (Nat.add_assoc _ _ _))⟩)) | (go_at_call 58; (with_reducible refine (spec_l01Between.calls ((rd_T102 l0_4 x4_2).f1) 1 4 true _ A43.out).mono ?_); rintro e w' ⟨rfl, ⟨nd, rfl⟩⟩; (try first | exact ⟨rfl, _, World.drewN_drewN _ _ _⟩ | exact ⟨rfl, _, Eq.trans (World.drewN_drewN _ _ _) (congrArg (World.drewN _) (Nat.add_assoc _ _ _))⟩)) | (go_at_call 58; (with_reducible refine (spec_l01Between.calls ((rd_T102 l0_4 x4_2).f2) 1 4 true _ A45.out).mono ?_); rintro e w' ⟨rfl, ⟨nd, rfl⟩⟩; (try first | exact ⟨rfl, _, World.drewN_drewN _ _ _⟩ | exact ⟨rfl, _, Eq.trans (World.drewN_drewN _ _ _) (congrArg (World.drewN _) (Nat.add_assoc _ _ _))⟩)) | (go_at_call 58; (with_reducible refine (spec_l01Between.calls ((rd_T102 l0_4 x4_2).f3) 0 3 t129 _ A47.out).mono ?_); rintro e w' ⟨rfl, ⟨nd, rfl⟩⟩; (try first | exact ⟨rfl, _, World.drewN_drewN _ _ _⟩ | exact ⟨rfl, _, Eq.trans (World.drewN_drewN _ _ _) (congrArg (World.drewN _) (Nat.add_assoc _ _ _))⟩))); try go_wp2_with (first | (go_at_call 58; (with_reducible refine (spec_l01Between.calls ((rd_T102 l0_4 x4_2).f0) 0 255 true _ A41.out).mono ?_); rintro e w' ⟨rfl, ⟨nd, rfl⟩⟩; (try first | exact ⟨rfl, _, World.drewN_drewN _ _ _⟩ | exact ⟨rfl, _, Eq.trans (World.drewN_drewN _ _ _) (congrArg (World.drewN _) (Nat.add_assoc _ _ _))⟩)) | (go_at_call 58; (with_reducible refine (spec_l01Between.calls ((rd_T102 l0_4 x4_2).f1) 1 4 true _ A43.out).mono ?_); rintro e w' ⟨rfl, ⟨nd, rfl⟩⟩; (try first | exact ⟨rfl, _, World.drewN_drewN _ _ _⟩ | exact ⟨rfl, _, Eq.trans (World.drewN_drewN _ _ _) (congrArg (World.drewN _) (Nat.add_assoc _ _ _))⟩)) | (go_at_call 58; (with_reducible refine (spec_l01Between.calls ((rd_T102 l0_4 x4_2).f2) 1 4 true _ A45.out).mono ?_); rintro e w' ⟨rfl, ⟨nd, rfl⟩⟩; (try first | exact ⟨rfl, _, World.drewN_drewN _ _ _⟩ | exact ⟨rfl, _, Eq.trans (World.drewN_drewN _ _ _) (congrArg (World.drewN _) (Nat.add_assoc _ _ _))⟩)) | (go_at_call 58; (with_reducible refine (spec_l01Between.calls ((rd_T102 l0_4 x4_2).f3) 0 3 t129 _ A47.out).mono ?_); rintro e w' ⟨rfl, ⟨nd, rfl⟩⟩; (try first | exact ⟨rfl, _, World.drewN_drewN _ _ _⟩ | exact ⟨rfl, _, Eq.trans (World.drewN_drewN _ _ _) (congrArg (World.drewN _) (Nat.add_assoc _ _ _))⟩))))
            go_meet
            case rel => exact ⟨_, (!t129), (by first | rfl | (simp; done) | (simp [*]; done)), H', ⟨by have := HJ1.out; have := HK2.out; first | omega | exact Nat.le_refl _⟩, ⟨by (with_reducible repeat (first | refine zG ?_ _ | refine zH ?_ | refine zD ?_ _)); refine blk_far ?_ NB115_125.out _; (with_reducible repeat (first | refine zG ?_ _ | refine zH ?_ | refine zD ?_ _)); refine blk_far ?_ NB115_125.out _; (with_reducible repeat (first | refine zG ?_ _ | refine zH ?_ | refine zD ?_ _)); refine blk_far ?_ NB115_125.out _; (with_reducible repeat (first | refine zG ?_ _ | refine zH ?_ | refine zD ?_ _)); refine blk_far ?_ NB115_125.out _; (with_reducible repeat (first | refine zG ?_ _ | refine zH ?_ | refine zD ?_ _)); exact BK115.out⟩, ⟨by (with_reducible repeat (first | refine zG ?_ _ | refine zH ?_ | refine zD ?_ _)); refine blk_put (cs := #[.int .i64 ((rd_T102 l0_4 x4_2).f0), .int .i64 ((rd_T102 l0_4 x4_2).f1), .int .i64 ((rd_T102 l0_4 x4_2).f2), .int .i64 0]) ?_ 3 _ rfl; (with_reducible repeat (first | refine zG ?_ _ | refine zH ?_ | refine zD ?_ _)); refine blk_put (cs := #[.int .i64 ((rd_T102 l0_4 x4_2).f0), .int .i64 ((rd_T102 l0_4 x4_2).f1), .int .i64 0, .int .i64 0]) ?_ 2 _ rfl; (with_reducible repeat (first | refine zG ?_ _ | refine zH ?_ | refine zD ?_ _)); refine blk_put (cs := #[.int .i64 ((rd_T102 l0_4 x4_2).f0), .int .i64 0, .int .i64 0, .int .i64 0]) ?_ 1 _ rfl; (with_reducible repeat (first | refine zG ?_ _ | refine zH ?_ | refine zD ?_ _)); refine blk_put (cs := #[.int .i64 0, .int .i64 0, .int .i64 0, .int .i64 0]) ?_ 0 _ rfl; (with_reducible repeat (first | refine zG ?_ _ | refine zH ?_ | refine zD ?_ _)); exact BK125.out⟩, ⟨by repeat (first | (with_reducible first | exact HB.out | apply zC | apply zB | apply zF | refine zE ?_ GE115.out | refine zE ?_ GE125.out) | exact HB.out)⟩⟩
           ·replace c46 := Bool.eq_false_iff.mpr c46
            subst c46
            have H1 : (spec_FrameOk.j2 k2 x3_2 x4_2 true a0_0 a0_1 a0_2 a0_3 l0_4 ((rd_T102 l0_4 x4_2).f0) ((rd_T102 l0_4 x4_2).f1) ((rd_T102 l0_4 x4_2).f2) ((rd_T102 l0_4 x4_2).f3)) = some r := by rw [if_neg (show ¬ (false = true) by decide)] at H; exact H
            clear H
            have H := H1
            clear H1
            have H' := zA H
            clear H
            have hnb50 := NB125_115.out
            have hnc50 := NB115_125.out
            have hcz51_0 : w38.cell? ⟨gb125, 0, none⟩ = some (.int .i64 0) := (zK BK125.out 0).trans rfl
            have hcz51_1 : w38.cell? ⟨gb125, 1, none⟩ = some (.int .i64 0) := (zK BK125.out 1).trans rfl
            have hcz51_2 : w38.cell? ⟨gb125, 2, none⟩ = some (.int .i64 0) := (zK BK125.out 2).trans rfl
            have hcz51_3 : w38.cell? ⟨gb125, 3, none⟩ = some (.int .i64 0) := (zK BK125.out 3).trans rfl
            have hfz51_0 := zJ BK125.out 0
            have hfz51_1 := zJ BK125.out 1
            have hfz51_2 := zJ BK125.out 2
            have hfz51_3 := zJ BK125.out 3
            go_wp2_with (first | (go_at_call 58; (with_reducible refine (spec_l01Between.calls ((rd_T102 l0_4 x4_2).f0) 0 255 true _ A41.out).mono ?_); rintro e w' ⟨rfl, ⟨nd, rfl⟩⟩; (try first | exact ⟨rfl, _, World.drewN_drewN _ _ _⟩ | exact ⟨rfl, _, Eq.trans (World.drewN_drewN _ _ _) (congrArg (World.drewN _) (Nat.add_assoc _ _ _))⟩)) | (go_at_call 58; (with_reducible refine (spec_l01Between.calls ((rd_T102 l0_4 x4_2).f1) 1 4 true _ A43.out).mono ?_); rintro e w' ⟨rfl, ⟨nd, rfl⟩⟩; (try first | exact ⟨rfl, _, World.drewN_drewN _ _ _⟩ | exact ⟨rfl, _, Eq.trans (World.drewN_drewN _ _ _) (congrArg (World.drewN _) (Nat.add_assoc _ _ _))⟩)) | (go_at_call 58; (with_reducible refine (spec_l01Between.calls ((rd_T102 l0_4 x4_2).f2) 1 4 false _ A45.out).mono ?_); rintro e w' ⟨rfl, ⟨nd, rfl⟩⟩; (try first | exact ⟨rfl, _, World.drewN_drewN _ _ _⟩ | exact ⟨rfl, _, Eq.trans (World.drewN_drewN _ _ _) (congrArg (World.drewN _) (Nat.add_assoc _ _ _))⟩)))
            repeat (go_quiet (first | (go_at_call 58; (with_reducible refine (spec_l01Between.calls ((rd_T102 l0_4 x4_2).f0) 0 255 true _ A41.out).mono ?_); rintro e w' ⟨rfl, ⟨nd, rfl⟩⟩; (try first | exact ⟨rfl, _, World.drewN_drewN _ _ _⟩ | exact ⟨rfl, _, Eq.trans (World.drewN_drewN _ _ _) (congrArg (World.drewN _) (Nat.add_assoc _ _ _))⟩)) | (go_at_call 58; (with_reducible refine (spec_l01Between.calls ((rd_T102 l0_4 x4_2).f1) 1 4 true _ A43.out).mono ?_); rintro e w' ⟨rfl, ⟨nd, rfl⟩⟩; (try first | exact ⟨rfl, _, World.drewN_drewN _ _ _⟩ | exact ⟨rfl, _, Eq.trans (World.drewN_drewN _ _ _) (congrArg (World.drewN _) (Nat.add_assoc _ _ _))⟩)) | (go_at_call 58; (with_reducible refine (spec_l01Between.calls ((rd_T102 l0_4 x4_2).f2) 1 4 false _ A45.out).mono ?_); rintro e w' ⟨rfl, ⟨nd, rfl⟩⟩; (try first | exact ⟨rfl, _, World.drewN_drewN _ _ _⟩ | exact ⟨rfl, _, Eq.trans (World.drewN_drewN _ _ _) (congrArg (World.drewN _) (Nat.add_assoc _ _ _))⟩))); try go_wp2_with (first | (go_at_call 58; (with_reducible refine (spec_l01Between.calls ((rd_T102 l0_4 x4_2).f0) 0 255 true _ A41.out).mono ?_); rintro e w' ⟨rfl, ⟨nd, rfl⟩⟩; (try first | exact ⟨rfl, _, World.drewN_drewN _ _ _⟩ | exact ⟨rfl, _, Eq.trans (World.drewN_drewN _ _ _) (congrArg (World.drewN _) (Nat.add_assoc _ _ _))⟩)) | (go_at_call 58; (with_reducible refine (spec_l01Between.calls ((rd_T102 l0_4 x4_2).f1) 1 4 true _ A43.out).mono ?_); rintro e w' ⟨rfl, ⟨nd, rfl⟩⟩; (try first | exact ⟨rfl, _, World.drewN_drewN _ _ _⟩ | exact ⟨rfl, _, Eq.trans (World.drewN_drewN _ _ _) (congrArg (World.drewN _) (Nat.add_assoc _ _ _))⟩)) | (go_at_call 58; (with_reducible refine (spec_l01Between.calls ((rd_T102 l0_4 x4_2).f2) 1 4 false _ A45.out).mono ?_); rintro e w' ⟨rfl, ⟨nd, rfl⟩⟩; (try first | exact ⟨rfl, _, World.drewN_drewN _ _ _⟩ | exact ⟨rfl, _, Eq.trans (World.drewN_drewN _ _ _) (congrArg (World.drewN _) (Nat.add_assoc _ _ _))⟩))))
            go_meet
            case rel => exact ⟨_, (true), (by first | rfl | (simp; done) | (simp [*]; done)), H', ⟨by have := HJ1.out; have := HK2.out; first | omega | exact Nat.le_refl _⟩, ⟨by (with_reducible repeat (first | refine zG ?_ _ | refine zH ?_ | refine zD ?_ _)); refine blk_far ?_ NB115_125.out _; (with_reducible repeat (first | refine zG ?_ _ | refine zH ?_ | refine zD ?_ _)); refine blk_far ?_ NB115_125.out _; (with_reducible repeat (first | refine zG ?_ _ | refine zH ?_ | refine zD ?_ _)); refine blk_far ?_ NB115_125.out _; (with_reducible repeat (first | refine zG ?_ _ | refine zH ?_ | refine zD ?_ _)); refine blk_far ?_ NB115_125.out _; (with_reducible repeat (first | refine zG ?_ _ | refine zH ?_ | refine zD ?_ _)); exact BK115.out⟩, ⟨by (with_reducible repeat (first | refine zG ?_ _ | refine zH ?_ | refine zD ?_ _)); refine blk_put (cs := #[.int .i64 ((rd_T102 l0_4 x4_2).f0), .int .i64 ((rd_T102 l0_4 x4_2).f1), .int .i64 ((rd_T102 l0_4 x4_2).f2), .int .i64 0]) ?_ 3 _ rfl; (with_reducible repeat (first | refine zG ?_ _ | refine zH ?_ | refine zD ?_ _)); refine blk_put (cs := #[.int .i64 ((rd_T102 l0_4 x4_2).f0), .int .i64 ((rd_T102 l0_4 x4_2).f1), .int .i64 0, .int .i64 0]) ?_ 2 _ rfl; (with_reducible repeat (first | refine zG ?_ _ | refine zH ?_ | refine zD ?_ _)); refine blk_put (cs := #[.int .i64 ((rd_T102 l0_4 x4_2).f0), .int .i64 0, .int .i64 0, .int .i64 0]) ?_ 1 _ rfl; (with_reducible repeat (first | refine zG ?_ _ | refine zH ?_ | refine zD ?_ _)); refine blk_put (cs := #[.int .i64 0, .int .i64 0, .int .i64 0, .int .i64 0]) ?_ 0 _ rfl; (with_reducible repeat (first | refine zG ?_ _ | refine zH ?_ | refine zD ?_ _)); exact BK125.out⟩, ⟨by repeat (first | (with_reducible first | exact HB.out | apply zC | apply zB | apply zF | refine zE ?_ GE115.out | refine zE ?_ GE125.out) | exact HB.out)⟩⟩
          ·replace c44 := Bool.eq_false_iff.mpr c44
           subst c44
           have H1 : (spec_FrameOk.j2 k2 x3_2 x4_2 true a0_0 a0_1 a0_2 a0_3 l0_4 ((rd_T102 l0_4 x4_2).f0) ((rd_T102 l0_4 x4_2).f1) ((rd_T102 l0_4 x4_2).f2) ((rd_T102 l0_4 x4_2).f3)) = some r := by rw [if_neg (show ¬ (false = true) by decide)] at H; exact H
           clear H
           have H := H1
           clear H1
           have H' := zA H
           clear H
           have hnb52 := NB125_115.out
           have hnc52 := NB115_125.out
           have hcz53_0 : w38.cell? ⟨gb125, 0, none⟩ = some (.int .i64 0) := (zK BK125.out 0).trans rfl
           have hcz53_1 : w38.cell? ⟨gb125, 1, none⟩ = some (.int .i64 0) := (zK BK125.out 1).trans rfl
           have hcz53_2 : w38.cell? ⟨gb125, 2, none⟩ = some (.int .i64 0) := (zK BK125.out 2).trans rfl
           have hcz53_3 : w38.cell? ⟨gb125, 3, none⟩ = some (.int .i64 0) := (zK BK125.out 3).trans rfl
           have hfz53_0 := zJ BK125.out 0
           have hfz53_1 := zJ BK125.out 1
           have hfz53_2 := zJ BK125.out 2
           have hfz53_3 := zJ BK125.out 3
           go_wp2_with (first | (go_at_call 58; (with_reducible refine (spec_l01Between.calls ((rd_T102 l0_4 x4_2).f0) 0 255 true _ A41.out).mono ?_); rintro e w' ⟨rfl, ⟨nd, rfl⟩⟩; (try first | exact ⟨rfl, _, World.drewN_drewN _ _ _⟩ | exact ⟨rfl, _, Eq.trans (World.drewN_drewN _ _ _) (congrArg (World.drewN _) (Nat.add_assoc _ _ _))⟩)) | (go_at_call 58; (with_reducible refine (spec_l01Between.calls ((rd_T102 l0_4 x4_2).f1) 1 4 false _ A43.out).mono ?_); rintro e w' ⟨rfl, ⟨nd, rfl⟩⟩; (try first | exact ⟨rfl, _, World.drewN_drewN _ _ _⟩ | exact ⟨rfl, _, Eq.trans (World.drewN_drewN _ _ _) (congrArg (World.drewN _) (Nat.add_assoc _ _ _))⟩)))
           repeat (go_quiet (first | (go_at_call 58; (with_reducible refine (spec_l01Between.calls ((rd_T102 l0_4 x4_2).f0) 0 255 true _ A41.out).mono ?_); rintro e w' ⟨rfl, ⟨nd, rfl⟩⟩; (try first | exact ⟨rfl, _, World.drewN_drewN _ _ _⟩ | exact ⟨rfl, _, Eq.trans (World.drewN_drewN _ _ _) (congrArg (World.drewN _) (Nat.add_assoc _ _ _))⟩)) | (go_at_call 58; (with_reducible refine (spec_l01Between.calls ((rd_T102 l0_4 x4_2).f1) 1 4 false _ A43.out).mono ?_); rintro e w' ⟨rfl, ⟨nd, rfl⟩⟩; (try first | exact ⟨rfl, _, World.drewN_drewN _ _ _⟩ | exact ⟨rfl, _, Eq.trans (World.drewN_drewN _ _ _) (congrArg (World.drewN _) (Nat.add_assoc _ _ _))⟩))); try go_wp2_with (first | (go_at_call 58; (with_reducible refine (spec_l01Between.calls ((rd_T102 l0_4 x4_2).f0) 0 255 true _ A41.out).mono ?_); rintro e w' ⟨rfl, ⟨nd, rfl⟩⟩; (try first | exact ⟨rfl, _, World.drewN_drewN _ _ _⟩ | exact ⟨rfl, _, Eq.trans (World.drewN_drewN _ _ _) (congrArg (World.drewN _) (Nat.add_assoc _ _ _))⟩)) | (go_at_call 58; (with_reducible refine (spec_l01Between.calls ((rd_T102 l0_4 x4_2).f1) 1 4 false _ A43.out).mono ?_); rintro e w' ⟨rfl, ⟨nd, rfl⟩⟩; (try first | exact ⟨rfl, _, World.drewN_drewN _ _ _⟩ | exact ⟨rfl, _, Eq.trans (World.drewN_drewN _ _ _) (congrArg (World.drewN _) (Nat.add_assoc _ _ _))⟩))))
           go_meet
           case rel => exact ⟨_, (true), (by first | rfl | (simp; done) | (simp [*]; done)), H', ⟨by have := HJ1.out; have := HK2.out; first | omega | exact Nat.le_refl _⟩, ⟨by (with_reducible repeat (first | refine zG ?_ _ | refine zH ?_ | refine zD ?_ _)); refine blk_far ?_ NB115_125.out _; (with_reducible repeat (first | refine zG ?_ _ | refine zH ?_ | refine zD ?_ _)); refine blk_far ?_ NB115_125.out _; (with_reducible repeat (first | refine zG ?_ _ | refine zH ?_ | refine zD ?_ _)); refine blk_far ?_ NB115_125.out _; (with_reducible repeat (first | refine zG ?_ _ | refine zH ?_ | refine zD ?_ _)); refine blk_far ?_ NB115_125.out _; (with_reducible repeat (first | refine zG ?_ _ | refine zH ?_ | refine zD ?_ _)); exact BK115.out⟩, ⟨by (with_reducible repeat (first | refine zG ?_ _ | refine zH ?_ | refine zD ?_ _)); refine blk_put (cs := #[.int .i64 ((rd_T102 l0_4 x4_2).f0), .int .i64 ((rd_T102 l0_4 x4_2).f1), .int .i64 ((rd_T102 l0_4 x4_2).f2), .int .i64 0]) ?_ 3 _ rfl; (with_reducible repeat (first | refine zG ?_ _ | refine zH ?_ | refine zD ?_ _)); refine blk_put (cs := #[.int .i64 ((rd_T102 l0_4 x4_2).f0), .int .i64 ((rd_T102 l0_4 x4_2).f1), .int .i64 0, .int .i64 0]) ?_ 2 _ rfl; (with_reducible repeat (first | refine zG ?_ _ | refine zH ?_ | refine zD ?_ _)); refine blk_put (cs := #[.int .i64 ((rd_T102 l0_4 x4_2).f0), .int .i64 0, .int .i64 0, .int .i64 0]) ?_ 1 _ rfl; (with_reducible repeat (first | refine zG ?_ _ | refine zH ?_ | refine zD ?_ _)); refine blk_put (cs := #[.int .i64 0, .int .i64 0, .int .i64 0, .int .i64 0]) ?_ 0 _ rfl; (with_reducible repeat (first | refine zG ?_ _ | refine zH ?_ | refine zD ?_ _)); exact BK125.out⟩, ⟨by repeat (first | (with_reducible first | exact HB.out | apply zC | apply zB | apply zF | refine zE ?_ GE115.out | refine zE ?_ GE125.out) | exact HB.out)⟩⟩
         ·replace c42 := Bool.eq_false_iff.mpr c42
          subst c42
          have H1 : (spec_FrameOk.j2 k2 x3_2 x4_2 true a0_0 a0_1 a0_2 a0_3 l0_4 ((rd_T102 l0_4 x4_2).f0) ((rd_T102 l0_4 x4_2).f1) ((rd_T102 l0_4 x4_2).f2) ((rd_T102 l0_4 x4_2).f3)) = some r := by rw [if_neg (show ¬ (false = true) by decide)] at H; exact H
          clear H
          have H := H1
          clear H1
          have H' := zA H
          clear H
          have hnb54 := NB125_115.out
          have hnc54 := NB115_125.out
          have hcz55_0 : w38.cell? ⟨gb125, 0, none⟩ = some (.int .i64 0) := (zK BK125.out 0).trans rfl
          have hcz55_1 : w38.cell? ⟨gb125, 1, none⟩ = some (.int .i64 0) := (zK BK125.out 1).trans rfl
          have hcz55_2 : w38.cell? ⟨gb125, 2, none⟩ = some (.int .i64 0) := (zK BK125.out 2).trans rfl
          have hcz55_3 : w38.cell? ⟨gb125, 3, none⟩ = some (.int .i64 0) := (zK BK125.out 3).trans rfl
          have hfz55_0 := zJ BK125.out 0
          have hfz55_1 := zJ BK125.out 1
          have hfz55_2 := zJ BK125.out 2
          have hfz55_3 := zJ BK125.out 3
          go_wp2_with (first | (go_at_call 58; (with_reducible refine (spec_l01Between.calls ((rd_T102 l0_4 x4_2).f0) 0 255 false _ A41.out).mono ?_); rintro e w' ⟨rfl, ⟨nd, rfl⟩⟩; (try first | exact ⟨rfl, _, World.drewN_drewN _ _ _⟩ | exact ⟨rfl, _, Eq.trans (World.drewN_drewN _ _ _) (congrArg (World.drewN _) (Nat.add_assoc _ _ _))⟩)))
          repeat (go_quiet (first | (go_at_call 58; (with_reducible refine (spec_l01Between.calls ((rd_T102 l0_4 x4_2).f0) 0 255 false _ A41.out).mono ?_); rintro e w' ⟨rfl, ⟨nd, rfl⟩⟩; (try first | exact ⟨rfl, _, World.drewN_drewN _ _ _⟩ | exact ⟨rfl, _, Eq.trans (World.drewN_drewN _ _ _) (congrArg (World.drewN _) (Nat.add_assoc _ _ _))⟩))); try go_wp2_with (first | (go_at_call 58; (with_reducible refine (spec_l01Between.calls ((rd_T102 l0_4 x4_2).f0) 0 255 false _ A41.out).mono ?_); rintro e w' ⟨rfl, ⟨nd, rfl⟩⟩; (try first | exact ⟨rfl, _, World.drewN_drewN _ _ _⟩ | exact ⟨rfl, _, Eq.trans (World.drewN_drewN _ _ _) (congrArg (World.drewN _) (Nat.add_assoc _ _ _))⟩))))
          go_meet
          case rel => exact ⟨_, (true), (by first | rfl | (simp; done) | (simp [*]; done)), H', ⟨by have := HJ1.out; have := HK2.out; first | omega | exact Nat.le_refl _⟩, ⟨by (with_reducible repeat (first | refine zG ?_ _ | refine zH ?_ | refine zD ?_ _)); refine blk_far ?_ NB115_125.out _; (with_reducible repeat (first | refine zG ?_ _ | refine zH ?_ | refine zD ?_ _)); refine blk_far ?_ NB115_125.out _; (with_reducible repeat (first | refine zG ?_ _ | refine zH ?_ | refine zD ?_ _)); refine blk_far ?_ NB115_125.out _; (with_reducible repeat (first | refine zG ?_ _ | refine zH ?_ | refine zD ?_ _)); refine blk_far ?_ NB115_125.out _; (with_reducible repeat (first | refine zG ?_ _ | refine zH ?_ | refine zD ?_ _)); exact BK115.out⟩, ⟨by (with_reducible repeat (first | refine zG ?_ _ | refine zH ?_ | refine zD ?_ _)); refine blk_put (cs := #[.int .i64 ((rd_T102 l0_4 x4_2).f0), .int .i64 ((rd_T102 l0_4 x4_2).f1), .int .i64 ((rd_T102 l0_4 x4_2).f2), .int .i64 0]) ?_ 3 _ rfl; (with_reducible repeat (first | refine zG ?_ _ | refine zH ?_ | refine zD ?_ _)); refine blk_put (cs := #[.int .i64 ((rd_T102 l0_4 x4_2).f0), .int .i64 ((rd_T102 l0_4 x4_2).f1), .int .i64 0, .int .i64 0]) ?_ 2 _ rfl; (with_reducible repeat (first | refine zG ?_ _ | refine zH ?_ | refine zD ?_ _)); refine blk_put (cs := #[.int .i64 ((rd_T102 l0_4 x4_2).f0), .int .i64 0, .int .i64 0, .int .i64 0]) ?_ 1 _ rfl; (with_reducible repeat (first | refine zG ?_ _ | refine zH ?_ | refine zD ?_ _)); refine blk_put (cs := #[.int .i64 0, .int .i64 0, .int .i64 0, .int .i64 0]) ?_ 0 _ rfl; (with_reducible repeat (first | refine zG ?_ _ | refine zH ?_ | refine zD ?_ _)); exact BK125.out⟩, ⟨by repeat (first | (with_reducible first | exact HB.out | apply zC | apply zB | apply zF | refine zE ?_ GE115.out | refine zE ?_ GE125.out) | exact HB.out)⟩⟩
        case rest =>
         clear HC36
         try clear c1
         try clear p1
         try clear q1
         try clear hx1
         try clear c2
         try clear p2
         try clear c3
         try clear c4
         try clear c4b0
         try clear c4b1
         try clear c5
         try clear c6
         try clear p6
         try clear c8
         try clear c9
         try clear c9b0
         try clear c12
         try clear p12
         try clear q12
         try clear hx12
         try clear c18
         try clear c18b0
         try clear c18b1
         try clear c20
         try clear c22
         try clear c23
         try clear c23b0
         try clear c26
         try clear c33
         try clear c34
         try clear c34b0
         try clear c35
         try clear c35b0
         try clear c39
         try clear c42
         try clear c44
         try clear c46
         try clear c48
         try clear c50
         try clear c52
         try clear c54
         try clear hcz10_0
         try clear hcz10_1
         try clear hcz10_2
         try clear hcz10_3
         try clear hcz10_4
         try clear hcz14_0
         try clear hcz14_1
         try clear hcz14_2
         try clear hcz14_3
         try clear hcz14_4
         try clear hcz15_0
         try clear hcz15_1
         try clear hcz15_2
         try clear hcz15_3
         try clear hcz15_4
         try clear hcz16_0
         try clear hcz16_1
         try clear hcz16_2
         try clear hcz16_3
         try clear hcz16_4
         try clear hcz17_0
         try clear hcz17_1
         try clear hcz17_2
         try clear hcz17_3
         try clear hcz17_4
         try clear hcz24_0
         try clear hcz24_1
         try clear hcz24_2
         try clear hcz24_3
         try clear hcz24_4
         try clear hcz28_0
         try clear hcz28_1
         try clear hcz28_2
         try clear hcz28_3
         try clear hcz28_4
         try clear hcz29_0
         try clear hcz29_1
         try clear hcz29_2
         try clear hcz29_3
         try clear hcz29_4
         try clear hcz30_0
         try clear hcz30_1
         try clear hcz30_2
         try clear hcz30_3
         try clear hcz30_4
         try clear hcz31_0
         try clear hcz31_1
         try clear hcz31_2
         try clear hcz31_3
         try clear hcz31_4
         try clear hcz32_0
         try clear hcz32_1
         try clear hcz32_2
         try clear hcz32_3
         try clear hcz32_4
         try clear hcz37_0
         try clear hcz37_1
         try clear hcz37_2
         try clear hcz37_3
         try clear hcz37_4
         try clear hcz40_0
         try clear hcz40_1
         try clear hcz40_2
         try clear hcz40_3
         try clear hcz49_0
         try clear hcz49_1
         try clear hcz49_2
         try clear hcz49_3
         try clear hcz51_0
         try clear hcz51_1
         try clear hcz51_2
         try clear hcz51_3
         try clear hcz53_0
         try clear hcz53_1
         try clear hcz53_2
         try clear hcz53_3
         try clear hcz55_0
         try clear hcz55_1
         try clear hcz55_2
         try clear hcz55_3
         try clear hfz10_0
         try clear hfz10_1
         try clear hfz10_2
         try clear hfz10_3
         try clear hfz10_4
         try clear hfz14_0
         try clear hfz14_1
         try clear hfz14_2
         try clear hfz14_3
         try clear hfz14_4
         try clear hfz15_0
         try clear hfz15_1
         try clear hfz15_2
         try clear hfz15_3
         try clear hfz15_4
         try clear hfz16_0
         try clear hfz16_1
         try clear hfz16_2
         try clear hfz16_3
         try clear hfz16_4
         try clear hfz17_0
         try clear hfz17_1
         try clear hfz17_2
         try clear hfz17_3
         try clear hfz17_4
         try clear hfz24_0
         try clear hfz24_1
         try clear hfz24_2
         try clear hfz24_3
         try clear hfz24_4
         try clear hfz28_0
         try clear hfz28_1
         try clear hfz28_2
         try clear hfz28_3
         try clear hfz28_4
         try clear hfz29_0
         try clear hfz29_1
         try clear hfz29_2
         try clear hfz29_3
         try clear hfz29_4
         try clear hfz30_0
         try clear hfz30_1
         try clear hfz30_2
         try clear hfz30_3
         try clear hfz30_4
         try clear hfz31_0
         try clear hfz31_1
         try clear hfz31_2
         try clear hfz31_3
         try clear hfz31_4
         try clear hfz32_0
         try clear hfz32_1
         try clear hfz32_2
         try clear hfz32_3
         try clear hfz32_4
         try clear hfz37_0
         try clear hfz37_1
         try clear hfz37_2
         try clear hfz37_3
         try clear hfz37_4
         try clear hfz40_0
         try clear hfz40_1
         try clear hfz40_2
         try clear hfz40_3
         try clear hfz49_0
         try clear hfz49_1
         try clear hfz49_2
         try clear hfz49_3
         try clear hfz51_0
         try clear hfz51_1
         try clear hfz51_2
         try clear hfz51_3
         try clear hfz53_0
         try clear hfz53_1
         try clear hfz53_2
         try clear hfz53_3
         try clear hfz55_0
         try clear hfz55_1
         try clear hfz55_2
         try clear hfz55_3
         try clear hx124_0
         try clear hx124_1
         try clear hx124_2
         try clear hx124_3
         try clear p124
         try clear p2
         try clear p6
         try clear q124
         obtain ⟨kq, x81_35, rfl, HA, HJ35, BK115, BK125, HB⟩ := hcut
         cases kq with
         | zero => exact absurd HA.out (by simp [spec_FrameOk.j2])
         | succ kj35 =>
          have H := HA.out
          clear HA
          simp only [spec_FrameOk.j2] at H
          by_cases c56 : x81_35 = true
          ·subst c56
           have H1 : (some false) = some r := by rw [if_pos rfl] at H; exact H
           clear H
           have H := H1
           clear H1
           obtain rfl := Option.some.inj H
           go_wp2
           repeat (go_quiet (fail); try go_wp2)
           go_ret
           exact ⟨by first | rfl | (simp [errW_none, errW_some] <;> rfl) | (simp [*, errW_none, errW_some] <;> rfl), by repeat (first | (with_reducible first | exact HB.out | apply zC | apply zB | apply zF | refine zE ?_ GE115.out | refine zE ?_ GE125.out) | exact HB.out)⟩
          ·replace c56 := Bool.eq_false_iff.mpr c56
           subst c56
           have H1 : (spec_FrameOk.l1 kj35 x3_2 x4_2 0 a0_0 a0_1 a0_2 a0_3 l0_4 ((rd_T102 l0_4 x4_2).f0) ((rd_T102 l0_4 x4_2).f1) ((rd_T102 l0_4 x4_2).f2) ((rd_T102 l0_4 x4_2).f3)) = some r := by rw [if_neg (show ¬ (false = true) by decide)] at H; exact H
           clear H
           have H := H1
           clear H1
           have H' := zA H
           clear H
           go_wp2
           repeat (go_quiet (fail); try go_wp2)
           go_loopg [6] kj35 (fun kq v6 w' => ∃ (x6_4 : Int), v6 = .int .i64 x6_4 ∧ Aside0 (spec_FrameOk.l1 kq x3_2 x4_2 x6_4 a0_0 a0_1 a0_2 a0_3 l0_4 ((rd_T102 l0_4 x4_2).f0) ((rd_T102 l0_4 x4_2).f1) ((rd_T102 l0_4 x4_2).f2) ((rd_T102 l0_4 x4_2).f3) = some r) ∧ Aside0 (kq ≤ kj35) ∧ Aside0 (w'.heap[gb115]? = some (.cells #[.int .i64 a0_0, .int .i64 a0_1, .int .i64 a0_2, .int .i64 a0_3, (.slice (some ad124) l0_4.length c0_4)] 26 (0, 0))) ∧ Aside0 (w'.heap[gb125]? = some (.cells #[.int .i64 ((rd_T102 l0_4 x4_2).f0), .int .i64 ((rd_T102 l0_4 x4_2).f1), .int .i64 ((rd_T102 l0_4 x4_2).f2), .int .i64 ((rd_T102 l0_4 x4_2).f3)] 102 (0, 0))) ∧ Aside0 (Below w.heap.size w w'))
           case atStart => exact ⟨(0), (by first | rfl | (simp; done) | (simp [*]; done)), H', ⟨Nat.le_refl _⟩, ⟨by (with_reducible repeat (first | refine zG ?_ _ | refine zH ?_ | refine zD ?_ _)); exact BK115.out⟩, ⟨by (with_reducible repeat (first | refine zG ?_ _ | refine zH ?_ | refine zD ?_ _)); exact BK125.out⟩, ⟨by repeat (first | (with_reducible first | exact HB.out | apply zC | apply zB | apply zF | refine zE ?_ GE115.out | refine zE ?_ GE125.out) | exact HB.out)⟩⟩
           case round =>
            clear H'
            try clear c1
            try clear p1
            try clear q1
            try clear hx1
            try clear c2
            try clear p2
            try clear c3
            try clear c4
            try clear c4b0
            try clear c4b1
            try clear c5
            try clear c6
            try clear p6
            try clear c8
            try clear c9
            try clear c9b0
            try clear c12
            try clear p12
            try clear q12
            try clear hx12
            try clear c18
            try clear c18b0
            try clear c18b1
            try clear c20
            try clear c22
            try clear c23
            try clear c23b0
            try clear c26
            try clear c33
            try clear c34
            try clear c34b0
            try clear c35
            try clear c35b0
            try clear c39
            try clear c42
            try clear c44
            try clear c46
            try clear c48
            try clear c50
            try clear c52
            try clear c54
            try clear c56
            try clear hcz10_0
            try clear hcz10_1
            try clear hcz10_2
            try clear hcz10_3
            try clear hcz10_4
            try clear hcz14_0
            try clear hcz14_1
            try clear hcz14_2
            try clear hcz14_3
            try clear hcz14_4
            try clear hcz15_0
            try clear hcz15_1
            try clear hcz15_2
            try clear hcz15_3
            try clear hcz15_4
            try clear hcz16_0
            try clear hcz16_1
            try clear hcz16_2
            try clear hcz16_3
            try clear hcz16_4
            try clear hcz17_0
            try clear hcz17_1
            try clear hcz17_2
            try clear hcz17_3
            try clear hcz17_4
            try clear hcz24_0
            try clear hcz24_1
            try clear hcz24_2
            try clear hcz24_3
            try clear hcz24_4
            try clear hcz28_0
            try clear hcz28_1
            try clear hcz28_2
            try clear hcz28_3
            try clear hcz28_4
            try clear hcz29_0
            try clear hcz29_1
            try clear hcz29_2
            try clear hcz29_3
            try clear hcz29_4
            try clear hcz30_0
            try clear hcz30_1
            try clear hcz30_2
            try clear hcz30_3
            try clear hcz30_4
            try clear hcz31_0
            try clear hcz31_1
            try clear hcz31_2
            try clear hcz31_3
            try clear hcz31_4
            try clear hcz32_0
            try clear hcz32_1
            try clear hcz32_2
            try clear hcz32_3
            try clear hcz32_4
            try clear hcz37_0
            try clear hcz37_1
            try clear hcz37_2
            try clear hcz37_3
            try clear hcz37_4
            try clear hcz40_0
            try clear hcz40_1
            try clear hcz40_2
            try clear hcz40_3
            try clear hcz49_0
            try clear hcz49_1
            try clear hcz49_2
            try clear hcz49_3
            try clear hcz51_0
            try clear hcz51_1
            try clear hcz51_2
            try clear hcz51_3
            try clear hcz53_0
            try clear hcz53_1
            try clear hcz53_2
            try clear hcz53_3
            try clear hcz55_0
            try clear hcz55_1
            try clear hcz55_2
            try clear hcz55_3
            try clear hfz10_0
            try clear hfz10_1
            try clear hfz10_2
            try clear hfz10_3
            try clear hfz10_4
            try clear hfz14_0
            try clear hfz14_1
            try clear hfz14_2
            try clear hfz14_3
            try clear hfz14_4
            try clear hfz15_0
            try clear hfz15_1
            try clear hfz15_2
            try clear hfz15_3
            try clear hfz15_4
            try clear hfz16_0
            try clear hfz16_1
            try clear hfz16_2
            try clear hfz16_3
            try clear hfz16_4
            try clear hfz17_0
            try clear hfz17_1
            try clear hfz17_2
            try clear hfz17_3
            try clear hfz17_4
            try clear hfz24_0
            try clear hfz24_1
            try clear hfz24_2
            try clear hfz24_3
            try clear hfz24_4
            try clear hfz28_0
            try clear hfz28_1
            try clear hfz28_2
            try clear hfz28_3
            try clear hfz28_4
            try clear hfz29_0
            try clear hfz29_1
            try clear hfz29_2
            try clear hfz29_3
            try clear hfz29_4
            try clear hfz30_0
            try clear hfz30_1
            try clear hfz30_2
            try clear hfz30_3
            try clear hfz30_4
            try clear hfz31_0
            try clear hfz31_1
            try clear hfz31_2
            try clear hfz31_3
            try clear hfz31_4
            try clear hfz32_0
            try clear hfz32_1
            try clear hfz32_2
            try clear hfz32_3
            try clear hfz32_4
            try clear hfz37_0
            try clear hfz37_1
            try clear hfz37_2
            try clear hfz37_3
            try clear hfz37_4
            try clear hfz40_0
            try clear hfz40_1
            try clear hfz40_2
            try clear hfz40_3
            try clear hfz49_0
            try clear hfz49_1
            try clear hfz49_2
            try clear hfz49_3
            try clear hfz51_0
            try clear hfz51_1
            try clear hfz51_2
            try clear hfz51_3
            try clear hfz53_0
            try clear hfz53_1
            try clear hfz53_2
            try clear hfz53_3
            try clear hfz55_0
            try clear hfz55_1
            try clear hfz55_2
            try clear hfz55_3
            try clear hx124_0
            try clear hx124_1
            try clear hx124_2
            try clear hx124_3
            try clear p1
            try clear p12
            try clear p124
            try clear p2
            try clear p6
            try clear q1
            try clear q12
            try clear q124
            obtain ⟨x6_4, rfl, HA, HK4, BK115, BK125, HB⟩ := hrel
            cases gk with
            | zero => exact absurd HA.out (by simp [spec_FrameOk.l1])
            | succ k4 =>
             have H := HA.out
             clear HA
             simp only [spec_FrameOk.l1] at H
             by_cases c57 : x6_4 < x4_2
             ·rw [if_pos c57] at H
              have c57b0 : decide (x6_4 < x4_2) = true := zT c57
              clear c57
              by_cases c58 : 0 ≤ x6_4
              ·rw [if_pos c58] at H
               have c58b0 : decide (0 ≤ x6_4) = true := zT c58
               clear c58
               by_cases c59 : x6_4 < (l0_4.length : Int)
               ·rw [if_pos c59] at H
                have c59b0 : decide (x6_4 < (l0_4.length : Int)) = true := zT c59
                clear c59
                by_cases c60 : ((rd_T102 l0_4 x6_4).f0) = ((rd_T102 l0_4 x4_2).f0)
                ·rw [if_pos c60] at H
                 have c60b0 : (((rd_T102 l0_4 x6_4).f0) == ((rd_T102 l0_4 x4_2).f0)) = true := beq_iff_eq.mpr c60
                 have c60b1 : (((rd_T102 l0_4 x6_4).f0) != ((rd_T102 l0_4 x4_2).f0)) = false := bne_eq_false_iff_eq.mpr c60
                 clear c60
                 obtain rfl := Option.some.inj H
                 have hnb61 := NB115_125.out
                 have hnc61 := NB125_115.out
                 have hcz62_0 : wr.cell? ⟨gb115, 0, none⟩ = some (.int .i64 a0_0) := (zK BK115.out 0).trans rfl
                 have hcz62_1 : wr.cell? ⟨gb115, 1, none⟩ = some (.int .i64 a0_1) := (zK BK115.out 1).trans rfl
                 have hcz62_2 : wr.cell? ⟨gb115, 2, none⟩ = some (.int .i64 a0_2) := (zK BK115.out 2).trans rfl
                 have hcz62_3 : wr.cell? ⟨gb115, 3, none⟩ = some (.int .i64 a0_3) := (zK BK115.out 3).trans rfl
                 have hcz62_4 : wr.cell? ⟨gb115, 4, none⟩ = some (.slice (some ad124) l0_4.length c0_4) := (zK BK115.out 4).trans rfl
                 have hfz62_0 := zJ BK115.out 0
                 have hfz62_1 := zJ BK115.out 1
                 have hfz62_2 := zJ BK115.out 2
                 have hfz62_3 := zJ BK115.out 3
                 have hfz62_4 := zJ BK115.out 4
                 have p130 : 0 ≤ (x6_4 : Int) := zI (by first | (with_reducible assumption) | assumption)
                 have q130 : x6_4 < (l0_4.length : Int) := zI (by first | (with_reducible assumption) | assumption)
                 obtain ⟨ad130, e130, hx130_0, hx130_1, hx130_2, hx130_3⟩ := at_T102 HR0_4.out x6_4 p130 q130
                 obtain rfl : ad124 = ad130 := (by injection e130)
                 replace hx130_0 := (HB.out.cell (World.block_lt_of_cell? w _ hx130_0)).trans hx130_0
                 replace hx130_1 := (HB.out.cell (World.block_lt_of_cell? w _ hx130_1)).trans hx130_1
                 replace hx130_2 := (HB.out.cell (World.block_lt_of_cell? w _ hx130_2)).trans hx130_2
                 replace hx130_3 := (HB.out.cell (World.block_lt_of_cell? w _ hx130_3)).trans hx130_3
                 replace p130 := eq_true p130
                 replace q130 := eq_true q130
                 have hcz63_0 : wr.cell? ⟨gb125, 0, none⟩ = some (.int .i64 ((rd_T102 l0_4 x4_2).f0)) := (zK BK125.out 0).trans rfl
                 have hcz63_1 : wr.cell? ⟨gb125, 1, none⟩ = some (.int .i64 ((rd_T102 l0_4 x4_2).f1)) := (zK BK125.out 1).trans rfl
                 have hcz63_2 : wr.cell? ⟨gb125, 2, none⟩ = some (.int .i64 ((rd_T102 l0_4 x4_2).f2)) := (zK BK125.out 2).trans rfl
                 have hcz63_3 : wr.cell? ⟨gb125, 3, none⟩ = some (.int .i64 ((rd_T102 l0_4 x4_2).f3)) := (zK BK125.out 3).trans rfl
                 have hfz63_0 := zJ BK125.out 0
                 have hfz63_1 := zJ BK125.out 1
                 have hfz63_2 := zJ BK125.out 2
                 have hfz63_3 := zJ BK125.out 3
                 go_wp2
                 repeat (go_quiet (fail); try go_wp2)
                 go_ret
                 exact ⟨by first | rfl | (simp [errW_none, errW_some] <;> rfl) | (simp [*, errW_none, errW_some] <;> rfl), by repeat (first | (with_reducible first | exact HB.out | apply zC | apply zB | apply zF | refine zE ?_ GE115.out | refine zE ?_ GE125.out) | exact HB.out)⟩
                ·rw [if_neg c60] at H
                 have c60b0 : (((rd_T102 l0_4 x6_4).f0) == ((rd_T102 l0_4 x4_2).f0)) = false := beq_eq_false_iff_ne.mpr c60
                 have c60b1 : (((rd_T102 l0_4 x6_4).f0) != ((rd_T102 l0_4 x4_2).f0)) = true := bne_iff_ne.mpr c60
                 have H' := zA H
                 clear H
                 have hnb64 := NB115_125.out
                 have hnc64 := NB125_115.out
                 have hcz65_0 : wr.cell? ⟨gb115, 0, none⟩ = some (.int .i64 a0_0) := (zK BK115.out 0).trans rfl
                 have hcz65_1 : wr.cell? ⟨gb115, 1, none⟩ = some (.int .i64 a0_1) := (zK BK115.out 1).trans rfl
                 have hcz65_2 : wr.cell? ⟨gb115, 2, none⟩ = some (.int .i64 a0_2) := (zK BK115.out 2).trans rfl
                 have hcz65_3 : wr.cell? ⟨gb115, 3, none⟩ = some (.int .i64 a0_3) := (zK BK115.out 3).trans rfl
                 have hcz65_4 : wr.cell? ⟨gb115, 4, none⟩ = some (.slice (some ad124) l0_4.length c0_4) := (zK BK115.out 4).trans rfl
                 have hfz65_0 := zJ BK115.out 0
                 have hfz65_1 := zJ BK115.out 1
                 have hfz65_2 := zJ BK115.out 2
                 have hfz65_3 := zJ BK115.out 3
                 have hfz65_4 := zJ BK115.out 4
                 have p130 : 0 ≤ (x6_4 : Int) := zI (by first | (with_reducible assumption) | assumption)
                 have q130 : x6_4 < (l0_4.length : Int) := zI (by first | (with_reducible assumption) | assumption)
                 obtain ⟨ad130, e130, hx130_0, hx130_1, hx130_2, hx130_3⟩ := at_T102 HR0_4.out x6_4 p130 q130
                 obtain rfl : ad124 = ad130 := (by injection e130)
                 replace hx130_0 := (HB.out.cell (World.block_lt_of_cell? w _ hx130_0)).trans hx130_0
                 replace hx130_1 := (HB.out.cell (World.block_lt_of_cell? w _ hx130_1)).trans hx130_1
                 replace hx130_2 := (HB.out.cell (World.block_lt_of_cell? w _ hx130_2)).trans hx130_2
                 replace hx130_3 := (HB.out.cell (World.block_lt_of_cell? w _ hx130_3)).trans hx130_3
                 replace p130 := eq_true p130
                 replace q130 := eq_true q130
                 have hcz66_0 : wr.cell? ⟨gb125, 0, none⟩ = some (.int .i64 ((rd_T102 l0_4 x4_2).f0)) := (zK BK125.out 0).trans rfl
                 have hcz66_1 : wr.cell? ⟨gb125, 1, none⟩ = some (.int .i64 ((rd_T102 l0_4 x4_2).f1)) := (zK BK125.out 1).trans rfl
                 have hcz66_2 : wr.cell? ⟨gb125, 2, none⟩ = some (.int .i64 ((rd_T102 l0_4 x4_2).f2)) := (zK BK125.out 2).trans rfl
                 have hcz66_3 : wr.cell? ⟨gb125, 3, none⟩ = some (.int .i64 ((rd_T102 l0_4 x4_2).f3)) := (zK BK125.out 3).trans rfl
                 have hfz66_0 := zJ BK125.out 0
                 have hfz66_1 := zJ BK125.out 1
                 have hfz66_2 := zJ BK125.out 2
                 have hfz66_3 := zJ BK125.out 3
                 go_wp2
                 repeat (go_quiet (fail); try go_wp2)
                 go_roundg k4
                 case measure => have := HJ1.out; have := HK2.out; have := HJ35.out; have := HK4.out; omega
                 case rel => exact ⟨(wrap64 (x6_4 + 1)), (by first | rfl | (simp; done) | (simp [*]; done)), H', ⟨by have := HJ1.out; have := HK2.out; have := HJ35.out; have := HK4.out; omega⟩, ⟨by (with_reducible repeat (first | refine zG ?_ _ | refine zH ?_ | refine zD ?_ _)); exact BK115.out⟩, ⟨by (with_reducible repeat (first | refine zG ?_ _ | refine zH ?_ | refine zD ?_ _)); exact BK125.out⟩, ⟨by repeat (first | (with_reducible first | exact HB.out | apply zC | apply zB | apply zF | refine zE ?_ GE115.out | refine zE ?_ GE125.out) | exact HB.out)⟩⟩
               ·rw [if_neg c59] at H
                exact absurd H (by simp)
              ·rw [if_neg c58] at H
               exact absurd H (by simp)
             ·rw [if_neg c57] at H
              have c57b0 : decide (x6_4 < x4_2) = false := decide_eq_false c57
              clear c57
              have H' := zA H
              clear H
              have hnb67 := NB125_115.out
              have hnc67 := NB115_125.out
              have hcz68_0 : wr.cell? ⟨gb125, 0, none⟩ = some (.int .i64 ((rd_T102 l0_4 x4_2).f0)) := (zK BK125.out 0).trans rfl
              have hcz68_1 : wr.cell? ⟨gb125, 1, none⟩ = some (.int .i64 ((rd_T102 l0_4 x4_2).f1)) := (zK BK125.out 1).trans rfl
              have hcz68_2 : wr.cell? ⟨gb125, 2, none⟩ = some (.int .i64 ((rd_T102 l0_4 x4_2).f2)) := (zK BK125.out 2).trans rfl
              have hcz68_3 : wr.cell? ⟨gb125, 3, none⟩ = some (.int .i64 ((rd_T102 l0_4 x4_2).f3)) := (zK BK125.out 3).trans rfl
              have hfz68_0 := zJ BK125.out 0
              have hfz68_1 := zJ BK125.out 1
              have hfz68_2 := zJ BK125.out 2
              have hfz68_3 := zJ BK125.out 3
              go_wp2
              repeat (go_quiet (fail); try go_wp2)
              go_roundg k4
              case measure => have := HJ1.out; have := HK2.out; have := HJ35.out; have := HK4.out; omega
              case rel => exact ⟨(wrap64 (x3_2 + (wrap64 (((rd_T102 l0_4 x4_2).f1) * ((rd_T102 l0_4 x4_2).f2))))), (wrap64 (x4_2 + 1)), (by first | rfl | (simp; done) | (simp [*]; done)), (by first | rfl | (simp; done) | (simp [*]; done)), H', ⟨by have := HJ1.out; have := HK2.out; have := HJ35.out; have := HK4.out; omega⟩, ⟨by (with_reducible repeat (first | refine zG ?_ _ | refine zH ?_ | refine zD ?_ _)); exact BK115.out⟩, ⟨by repeat (first | (with_reducible first | exact HB.out | apply zC | apply zB | apply zF | refine zE ?_ GE115.out | refine zE ?_ GE125.out) | exact HB.out)⟩⟩
       ·rw [if_neg c35] at H
        exact absurd H (by simp)
      ·rw [if_neg c34] at H
       have c34b0 : decide (x4_2 < (l0_4.length : Int)) = false := decide_eq_false c34
       clear c34
       obtain rfl := Option.some.inj H
       have hcz69_0 : wr.cell? ⟨gb115, 0, none⟩ = some (.int .i64 a0_0) := (zK BK115.out 0).trans rfl
       have hcz69_1 : wr.cell? ⟨gb115, 1, none⟩ = some (.int .i64 a0_1) := (zK BK115.out 1).trans rfl
       have hcz69_2 : wr.cell? ⟨gb115, 2, none⟩ = some (.int .i64 a0_2) := (zK BK115.out 2).trans rfl
       have hcz69_3 : wr.cell? ⟨gb115, 3, none⟩ = some (.int .i64 a0_3) := (zK BK115.out 3).trans rfl
       have hcz69_4 : wr.cell? ⟨gb115, 4, none⟩ = some (.slice A0_4 l0_4.length c0_4) := (zK BK115.out 4).trans rfl
       have hfz69_0 := zJ BK115.out 0
       have hfz69_1 := zJ BK115.out 1
       have hfz69_2 := zJ BK115.out 2
       have hfz69_3 := zJ BK115.out 3
       have hfz69_4 := zJ BK115.out 4
       go_wp2
       repeat (go_quiet (fail); try go_wp2)
       go_ret
       exact ⟨by first | rfl | (simp [errW_none, errW_some] <;> rfl) | (simp [*, errW_none, errW_some] <;> rfl), by repeat (first | (with_reducible first | exact HB.out | apply zC | apply zB | apply zF | refine zE ?_ GE115.out) | exact HB.out)⟩
theorem rdT_nat (l : List SC) (i : Nat) (h : i < l.length) : rd_T102 l (i : Int) = l[i] := by simp [rd_T102, h]
theorem spec_FrameOk.l1_ev (p w h r : Int) (l : List SC) (hn : l.length ≤ 4) (s : Int) (i : Nat) (hi : i < l.length) (x : SC) (b : Bool) (hr : Ev (fun k => spec_FrameOk.l0 k (wrap64 (s + wrap64 (x.f1 * x.f2))) (wrap64 ((i : Int) + 1)) p w h r l) b) :
  ∀ d j : Nat, j + d = i → Ev (fun k => spec_FrameOk.l1 k s (i : Int) (j : Int) p w h r l x.f0 x.f1 x.f2 x.f3) (!((l.take i).drop j).any (fun y => decide (y.f0 = x.f0)) && b) := by
 intro d
 induction d with
 | zero =>
  intro j hj
  refine Ev.step (fun _ => by rw [spec_FrameOk.l1]) (Ev.ng (by omega) (Ev.eq hr ?_))
  rw [List.drop_of_length_le (by rw [zQ]; omega)]; rfl
 | succ d ih =>
  intro j hj
  have hjl : j < l.length := by omega
  refine Ev.step (fun _ => by rw [spec_FrameOk.l1]) (Ev.ip (by omega) (Ev.ip (by omega) (Ev.ip (by omega) ?_)))
  rw [rdT_nat l j hjl]
  have hlt : j < (l.take i).length := by rw [zQ]; omega
  rw [List.drop_eq_getElem_cons hlt, List.any_cons, List.getElem_take]
  by_cases e : l[j].f0 = x.f0
  ·refine Ev.ip e (Ev.eq (Ev.now _) ?_)
   rw [zT e]; rfl
  ·refine Ev.ng e ?_
   rw [wrap_succ j (by omega), decide_eq_false e, Bool.false_or]
   exact ih (j + 1) (by omega)
theorem spec_FrameOk.l0_ev (p w h r : Int) (l : List SC) (hn : l.length ≤ 4) : ∀ (d i : Nat) (s : Int), i + d = l.length → 0 ≤ s → s ≤ 16 * i → Ev (fun k => spec_FrameOk.l0 k s (i : Int) p w h r l) (compsGo l i d s) := by
 intro d
 induction d with
 | zero =>
  intro i s hi h0 h1
  refine Ev.step (fun _ => by rw [spec_FrameOk.l0]) (Ev.ng (by omega) (Ev.eq (Ev.now _) ?_))
  rfl
 | succ d ih =>
  intro i s hi h0 h1
  have hlt : i < l.length := by omega
  refine Ev.step (fun _ => by rw [spec_FrameOk.l0]) (Ev.ip (by omega) (Ev.ip (by omega) ?_))
  rw [compsGo]
  obtain ⟨x, hx⟩ : ∃ x, x = rd_T102 l (i : Int) := ⟨_, rfl⟩
  rw [← hx]
  have jt : compOk x = false → Ev (fun k => spec_FrameOk.j2 k s (i : Int) true p w h r l x.f0 x.f1 x.f2 x.f3) (compOk x && (!idIn l i x.f0 && compsGo l (i + 1) d (s + x.f1 * x.f2))) := fun e => by
   rw [e]
   refine Ev.step (fun _ => by rw [spec_FrameOk.j2]) (Ev.ip rfl (Ev.eq (Ev.now _) ?_))
   rfl
  refine Ev.bind (Ev.c (spec_l01Between.val _ _ _)) ?_
  by_cases c0 : (decide (0 ≤ x.f0) && decide (x.f0 ≤ 255)) = true
  ·refine Ev.ip c0 (Ev.bind (Ev.c (spec_l01Between.val _ _ _)) ?_)
   by_cases c1 : (decide (1 ≤ x.f1) && decide (x.f1 ≤ 4)) = true
   ·refine Ev.ip c1 (Ev.bind (Ev.c (spec_l01Between.val _ _ _)) ?_)
    by_cases c2 : (decide (1 ≤ x.f2) && decide (x.f2 ≤ 4)) = true
    ·refine Ev.ip c2 (Ev.bind (Ev.c (spec_l01Between.val _ _ _)) ?_)
     by_cases c3 : (decide (0 ≤ x.f3) && decide (x.f3 ≤ 3)) = true
     ·rw [c3]
      have ok : compOk x = true := by unfold compOk; rw [c0, c1, c2, c3]; rfl
      obtain ⟨_, g1, g2, _⟩ := compOk_of ok
      have hm := mul_16 x.f1 x.f2 g1.1 g1.2 g2.1 g2.2
      refine Ev.step (fun _ => by rw [spec_FrameOk.j2]) (Ev.ng (by simp) ?_)
      rw [ok, Bool.true_and]
      refine spec_FrameOk.l1_ev p w h r l hn s i hlt x _ ?_ i 0 (by omega)
      rw [wrap_in (x.f1 * x.f2) (by omega) (by omega), wrap_in (s + x.f1 * x.f2) (by omega) (by omega), wrap_succ i (by omega)]
      exact ih (i + 1) (s + x.f1 * x.f2) (by omega) (by omega) (by omega)
     ·rw [Bool.eq_false_iff.2 c3]
      exact jt (by unfold compOk; rw [Bool.eq_false_iff.2 c3]; simp)
    ·exact Ev.ng c2 (jt (by unfold compOk; rw [Bool.eq_false_iff.2 c2]; simp))
   ·exact Ev.ng c1 (jt (by unfold compOk; rw [Bool.eq_false_iff.2 c1]; simp))
  ·exact Ev.ng c0 (jt (by unfold compOk; rw [Bool.eq_false_iff.2 c0]; simp))
theorem spec_FrameOk.j0_ev (p w h r : Int) (b : Bool) (l : List SC) (hb : b = false → l.length ≤ 4) : Ev (fun k => spec_FrameOk.j0 k b p w h r l) (!b && compsGo l 0 l.length 0) := by
 refine Ev.step (fun _ => by rw [spec_FrameOk.j0]) ?_
 cases b with
 | true => exact Ev.ip rfl (Ev.eq (Ev.now _) rfl)
 | false => exact Ev.ng (by simp) (spec_FrameOk.l0_ev p w h r l (hb rfl) l.length 0 0 (Nat.zero_add _) (by omega) (by omega))
theorem spec_FrameOk.rest (p w h r : Int) (hp : p = 8 ∨ p = 12) (l : List SC) :
  Ev (fun k => (spec_l01Between.f w 1 256).bind fun t1088 => (if t1088 = true then ((spec_l01Between.f h 1 256).bind fun t1089 => (if t1089 = true then (if (wrap64 (w * h)) > 16384 then (spec_FrameOk.j0 k true p w h r l) else ((spec_l01Between.f r 0 255).bind fun t305 => (if t305 = true then ((spec_l01Between.f (l.length : Int) 1 4).bind fun t306 => (spec_FrameOk.j0 k (!t306) p w h r l)) else (spec_FrameOk.j0 k true p w h r l)))) else (spec_FrameOk.j0 k true p w h r l))) else (spec_FrameOk.j0 k true p w h r l))) (frameOkM p w h r l) := by
 have no : frameHead p w h r (l.length : Int) = false → frameOkM p w h r l = (!true && compsGo l 0 l.length 0) := fun e => by rw [frameOkM, e]; rfl
 have bad := spec_FrameOk.j0_ev p w h r true l (fun e => by cases e)
 refine Ev.bind (Ev.c (spec_l01Between.val _ _ _)) ?_
 by_cases h1 : (decide (1 ≤ w) && decide (w ≤ 256)) = true
 ·refine Ev.ip h1 (Ev.bind (Ev.c (spec_l01Between.val _ _ _)) ?_)
  by_cases h2 : (decide (1 ≤ h) && decide (h ≤ 256)) = true
  ·refine Ev.ip h2 ?_
   have g1 := h1
   have g2 := h2
   simp only [Bool.and_eq_true, decide_eq_true_eq] at g1 g2
   have hm := mul_256 w h g1.1 g1.2 g2.1 g2.2
   rw [wrap_in (w * h) (by omega) (by omega)]
   by_cases h3 : w * h ≤ 16384
   ·refine Ev.ng (by omega) (Ev.bind (Ev.c (spec_l01Between.val _ _ _)) ?_)
    have hh : headOk p w h = true := by
     unfold headOk
     rw [h1, h2, zT h3]
     rcases hp with rfl | rfl <;> rfl
    by_cases h4 : (decide (0 ≤ r) && decide (r ≤ 255)) = true
    ·refine Ev.ip h4 (Ev.bind (Ev.c (spec_l01Between.val _ _ _)) ?_)
     refine Ev.eq (spec_FrameOk.j0_ev p w h r _ l (fun e => ?_)) ?_
     ·simp only [Bool.not_eq_false', Bool.and_eq_true, decide_eq_true_eq] at e
      omega
     ·rw [frameOkM, frameHead, hh, h4, Bool.not_not, Bool.true_and, Bool.true_and]
    ·refine Ev.ng h4 (Ev.eq bad (no ?_).symm)
     unfold frameHead
     rw [Bool.eq_false_iff.2 h4, Bool.false_and, Bool.and_false]
   ·refine Ev.ip (by omega) (Ev.eq bad (no ?_).symm)
    unfold frameHead headOk
    rw [decide_eq_false h3, Bool.and_false, Bool.false_and]
  ·refine Ev.ng h2 (Ev.eq bad (no ?_).symm)
   unfold frameHead headOk
   rw [Bool.eq_false_iff.2 h2, Bool.and_false, Bool.and_false, Bool.false_and, Bool.false_and]
 ·refine Ev.ng h1 (Ev.eq bad (no ?_).symm)
  unfold frameHead headOk
  rw [Bool.eq_false_iff.2 h1, Bool.false_and, Bool.and_false, Bool.false_and, Bool.false_and]
theorem spec_FrameOk.ev (p w h r : Int) (l : List SC) : Ev (fun k => spec_FrameOk.f k p w h r l) (frameOkM p w h r l) := by
 unfold spec_FrameOk.f
 by_cases h8 : p = 8
 ·exact Ev.ip h8 (spec_FrameOk.rest p w h r (.inl h8) l)
 ·refine Ev.ng h8 ?_
  by_cases h12 : p = 12
  ·exact Ev.ip h12 (spec_FrameOk.rest p w h r (.inr h12) l)
  ·refine Ev.ng h12 (Ev.eq (spec_FrameOk.j0_ev p w h r true l (fun e => by cases e)) ?_)
   rw [frameOkM, frameHead, headOk, decide_eq_false h8, decide_eq_false h12]; rfl
end Go.Proofs.Ytilimpjcdeeaiaa.G


namespace Go.Proofs.Ytilimpjcdeeaiaa.G
open Go.RowKit Go.Proofs.YtilimpjcdeeaiaaW.PrintWords Go.Proofs.YtilimpjcdeeaiaaW.PrintLast Go.Proofs.YtilimpjcdeeaiaaW.PrintMore
attribute [local go_sem] max2_int min2_int max_two min_two max_three min_three max_four min_four   -- for this text's walks alone
def impl_within.f (a0 : Int) (a1 : Int) (a2 : Int) : Option (Bool) := if a0 ≥ a1 then (some (decide (a0 ≤ a2))) else (some false)
set_option maxHeartbeats 8000000 in
set_option maxRecDepth 100000 in
theorem impl_within.calls (a0 : Int) (a1 : Int) (a2 : Int) (r : Bool) (w : World) (h : impl_within.f a0 a1 a2 = some r) :
  Calls Try.prog 53 #[.int .i64 a0, .int .i64 a1, .int .i64 a2] w fun e w' => e = .returned (.bool r) ∧ Drawn0 w w' := by
 have H : (if a0 ≥ a1 then (some (decide (a0 ≤ a2))) else (some false)) = some r := h
 clear h
 by_cases c4 : a0 ≥ a1
 ·rw [if_pos c4] at H
  have c4b0 : decide (a1 ≤ a0) = true := zT c4
  clear c4
  obtain rfl := Option.some.inj H
  go_enter Try.func53, Try.ntmps53
  go_wp2
  go_ret
  exact ⟨by first | rfl | (simp; done) | (simp [*]; done), by repeat (first | exact Drawn0.refl _ | apply Drawn0.step)⟩
 ·rw [if_neg c4] at H
  have c4b0 : decide (a1 ≤ a0) = false := decide_eq_false c4
  clear c4
  obtain rfl := Option.some.inj H
  go_enter Try.func53, Try.ntmps53
  go_wp2
  go_ret
  exact ⟨by first | rfl | (simp; done) | (simp [*]; done), by repeat (first | exact Drawn0.refl _ | apply Drawn0.step)⟩
theorem impl_within.val (x lo hi : Int) : impl_within.f x lo hi = some (decide (lo ≤ x) && decide (x ≤ hi)) := by
 unfold impl_within.f
 by_cases h1 : x ≥ lo
 ·rw [if_pos h1]; simp [ge_iff_le.mp h1]
 ·rw [if_neg h1]; have : ¬ lo ≤ x := h1; simp [this]
end Go.Proofs.Ytilimpjcdeeaiaa.G


namespace Go.Proofs.Ytilimpjcdeeaiaa.G
open Go.RowKit Go.Proofs.YtilimpjcdeeaiaaW.PrintWords Go.Proofs.YtilimpjcdeeaiaaW.PrintLast Go.Proofs.YtilimpjcdeeaiaaW.PrintMore
attribute [local go_sem] max2_int min2_int max_two min_two max_three min_three max_four min_four   -- for this text's walks alone
def CompP (w : World) (fn : Nat) (caps : Array Value) (D : S102 → Prop) (P : S102 → Bool) : Prop :=
 (∀ (args : Array Value) (W1 : World), Sem.run Try.prog (callFunc fn args) W1 = Result.ok (Next.enter fn args) W1) ∧
 ∀ (x : S102) (W1 : World), Below w.heap.size w W1 → D x → Calls Try.prog fn (#[.agg #[.int .i64 x.f0, .int .i64 x.f1, .int .i64 x.f2, .int .i64 x.f3]] ++ caps) W1 fun e w' => e = .returned (.bool (P x)) ∧ Below W1.heap.size W1 w'
theorem CompP.at_ {w W : World} {fn : Nat} {caps : Array Value} {D : S102 → Prop} {P : S102 → Bool} (h : CompP w fn caps D P) (hb : Below w.heap.size w W) : CompP W fn caps D P :=
 ⟨h.1, fun x W1 hW => h.2 x W1 (Below.trans hb (Below.mono hW hb.size))⟩
set_option maxRecDepth 100000 in
set_option maxHeartbeats 4000000 in
theorem idx_CompP (fn : Nat) (caps : Array Value) (D : S102 → Prop) (P : S102 → Bool) (A0 : Option Addr) (c0 : Nat) (l0 : List S102) (w : World) (hS : CompP w fn caps D P) (hD : ∀ x ∈ l0, D x) (hr0 : Kd.C k102 w A0 l0.length l0) (hc0 : l0.length ≤ c0) (hm : l0.length ≤ 100000000) :
  Calls Try.prog 141 #[.slice A0 l0.length c0, .func (.func fn) #[] caps] w fun e w' => ∃ r : Int, e = .returned (.int .i64 r) ∧ (0 ≤ r ↔ l0.any P = true) ∧ Below w.heap.size w w' := by
 have HR0 := zA hr0
 have HC0 := zA hc0
 have HS := zA hS
 have HD := zA hD
 clear hr0 hc0 hS hD
 have HB0 := zA (Below.refl w.heap.size w)
 go_enter Try.func141, Try.ntmps141
 go_wp2
 go_loopw [8] (fun i w' => ∃ k : Nat, i = .int .i64 k ∧ k ≤ l0.length ∧ Aside0 ((l0.take k).any P = false) ∧ Aside0 (Below w.heap.size w w')) (fun i w' => l0.length - (intOf i).toNat)
 case atStart => exact ⟨0, rfl, by omega, ⟨by simp⟩, by first | exact HB0 | exact ⟨by repeat (first | exact HB0.out | apply zB | apply below_drew)⟩⟩
 case round =>
  clear HB0
  obtain ⟨k, rfl, hk, HA, HB⟩ := hrel
  by_cases hlt : k < l0.length
  ·obtain ⟨ad, e1, hx0, hx1, hx2, hx3⟩ := at_T102 (Kd.C_below HR0.out HB.out) (k : Int) (by omega) (by omega)
   cases e1
   rw [Int.toNat_natCast] at hx0 hx1 hx2 hx3
   skip
   have hgl : rd_T102 l0 k = l0[k] := by simp [rd_T102, hlt]
   cases hp : P (rd_T102 l0 k)
   all_goals
    have HP := zA hp
    have HG := zA hgl
    clear hp hgl
    go_wp2_with fail
    rw [HS.out.1]
    simp only [Oper.upon_enter]
    have HBW := zA (show Below w.heap.size w _ from by first | exact HB.out | (repeat (first | exact HB.out | apply zB | apply below_drew)))
    refine (HS.out.2 (rd_T102 l0 k) wr HB.out (by rw [HG.out]; exact HD.out _ (List.getElem_mem _)) ).mono ?_
    rw [HP.out]
    rintro e w' ⟨rfl, hb2⟩
    have HB2 := zA (Below.trans HB.out (Below.mono hb2 HB.out.size))
    clear hb2
   ·go_wp2
    go_roundw
    case rel => exact ⟨k + 1, by go_num, by omega, ⟨by rw [List.take_succ_eq_append_getElem hlt, List.any_append, HA.out]; simp [← HG.out, HP.out]⟩, by first | exact HB2 | exact ⟨by repeat (first | exact HB2.out | apply zB | apply below_drew)⟩⟩
    case measure => simp [intOf]; omega
   ·go_wp2
    go_ret
    exact ⟨_, rfl, by simp only [Int.natCast_nonneg, true_iff]; rw [List.any_eq_true]; exact ⟨l0[k], List.getElem_mem _, by rw [← HG.out, HP.out]⟩, by repeat (first | exact HB2.out | apply zB | apply below_drew)⟩
  ·obtain rfl : k = l0.length := by omega
   go_wp2
   go_ret
   exact ⟨_, rfl, by have := HA.out; rw [List.take_length] at this; simp [this], by repeat (first | exact HB.out | apply zB | apply below_drew)⟩
set_option maxRecDepth 100000 in
set_option maxHeartbeats 4000000 in
theorem cont_CompP (fn : Nat) (caps : Array Value) (D : S102 → Prop) (P : S102 → Bool) (A0 : Option Addr) (c0 : Nat) (l0 : List S102) (w : World) (hS : CompP w fn caps D P) (hD : ∀ x ∈ l0, D x) (hr0 : Kd.C k102 w A0 l0.length l0) (hc0 : l0.length ≤ c0) (hm : l0.length ≤ 100000000) :
  Calls Try.prog 107 #[.slice A0 l0.length c0, .func (.func fn) #[] caps] w fun e w' => e = .returned (.bool (l0.any P)) ∧ Below w.heap.size w w' := by
 have HR0 := zA hr0
 have HC0 := zA hc0
 have HS := zA hS
 have HD := zA hD
 clear hr0 hc0 hS hD
 cases ha : l0.any P
 all_goals
  have HAA := zA ha
  clear ha
  go_enter Try.func107, Try.ntmps107
  go_wp2_with (first | (go_at_call 141; (with_reducible refine (idx_CompP fn caps D P _ _ l0 _ HS.out HD.out ?side1 ?side2 hm).mono ?_); (case side1 => exact HR0.out); (case side2 => exact HC0.out); rintro e w' ⟨r, rfl, hq, hb⟩; have HB := zA hb; clear hb; rw [HAA.out] at hq; (first | have hq2 : 0 ≤ r := hq.2 rfl | have hq2 : ¬ 0 ≤ r := fun z => absurd (hq.1 z) (by decide)); clear hq))
  go_ret
  exact ⟨by simp [hq2], by repeat (first | exact HB.out | apply zB | apply below_drew)⟩
theorem cont_CompP.n (fn : Nat) (caps : Array Value) (D : S102 → Prop) (P : S102 → Bool) (A0 : Option Addr) (n c0 : Nat) (l0 : List S102) (w : World) (hn : l0.length = n) (hS : CompP w fn caps D P) (hD : ∀ x ∈ l0, D x) (hr0 : Kd.C k102 w A0 n l0) (hc0 : n ≤ c0) (hm : n ≤ 100000000) :
  Calls Try.prog 107 #[.slice A0 n c0, .func (.func fn) #[] caps] w fun e w' => e = .returned (.bool (l0.any P)) ∧ Below w.heap.size w w' := by
 subst hn
 exact cont_CompP fn caps D P A0 c0 l0 w hS hD hr0 hc0 hm
end Go.Proofs.Ytilimpjcdeeaiaa.G


namespace Go.Proofs.Ytilimpjcdeeaiaa.G
open Go.RowKit Go.Proofs.YtilimpjcdeeaiaaW.PrintWords Go.Proofs.YtilimpjcdeeaiaaW.PrintLast Go.Proofs.YtilimpjcdeeaiaaW.PrintMore
attribute [local go_sem] max2_int min2_int max_two min_two max_three min_three max_four min_four   -- for this text's walks alone
def impl_FrameOk.f (a0_0 a0_1 a0_2 a0_3 : Int) (l0_4 : List (S102)) : Option Bool := some (frameOkM a0_0 a0_1 a0_2 a0_3 l0_4)
theorem cut_comp (A : Option Addr) (c : Nat) (l : List SC) (k : Nat) (hk : k ≤ l.length) (hc : l.length ≤ c) :
  ∀ W : World, (Instr.slice 24 (.slice A l.length c) none (some (.int .i64 (k : Int))) none).run Try.prog W = .ok (.slice A k c) W := by
 intro W
 have hu : Try.prog.underlying 24 = some (.slice (Try.prog.elem 24)) := by kernel_rfl
 have ha : (A.map fun x => x.add 0) = A := by cases A <;> simp [Addr.add]
 have hel : Try.prog.elem 24 = 102 := by kernel_rfl
 obtain ⟨i, hi, _, hsz, _⟩ := info_parts info102
 rw [run_slice_h W _ A l.length c hu .i64 (k : Int) (by omega) (by omega), hel]
 simp [sizeOf, typeInfo, hi, hsz, sliced, Result.andThen, ha]
def FrRel (w : World) (a0_0 a0_1 a0_2 a0_3 : Int) (A0_4 : Option Addr) (c0_4 : Nat) (l0_4 : List (S102)) (r : Bool) (v3 v50 : Value) (w' : World) : Prop :=
 ∃ (k : Nat) (s : Int), v3 = .int .i64 s ∧ v50 = .int .i64 k ∧ k ≤ l0_4.length ∧ 0 ≤ s ∧ s ≤ 16 * k ∧ Aside0 (compsGo l0_4 k (l0_4.length - k) s = r) ∧ Aside0 (w'.heap[w.heap.size]? = some (.cells #[.int .i64 a0_0, .int .i64 a0_1, .int .i64 a0_2, .int .i64 a0_3, .slice A0_4 l0_4.length c0_4] 26 (0, 0))) ∧ Aside0 (Below w.heap.size w w')
set_option maxRecDepth 100000 in
set_option maxHeartbeats 4000000 in
theorem frame_id (c : SC) (w : World) (g : Nat) (hg : w.heap[g]? = some (.cells #[.int .i64 c.f0, .int .i64 c.f1, .int .i64 c.f2, .int .i64 c.f3] 102 (0, 0))) : CompP w 108 #[.pointer (some ⟨g, 0, none⟩)] (fun _ => True) (fun y => decide (y.f0 = c.f0)) := by
 refine ⟨fun args W => by go_simp, fun x W1 hb _ => ?_⟩
 have hg2 : W1.heap[g]? = some (.cells #[.int .i64 c.f0, .int .i64 c.f1, .int .i64 c.f2, .int .i64 c.f3] 102 (0, 0)) := (hb.block g (blk_lt hg)).trans hg
 have hgl : g < W1.heap.size := blk_lt hg2
 have hc2 := zK hg2 0
 simp at hc2
 clear hg hg2 hb
 show Calls Try.prog 108 #[.agg #[.int .i64 x.f0, .int .i64 x.f1, .int .i64 x.f2, .int .i64 x.f3], .pointer (some ⟨g, 0, none⟩)] W1 _
 obtain ⟨x0, hx0⟩ : ∃ z, z = x.f0 := ⟨_, rfl⟩
 obtain ⟨c0, hc0⟩ : ∃ z, z = c.f0 := ⟨_, rfl⟩
 rw [← hx0, ← hc0]
 rw [← hc0] at hc2
 have hc3 := (World.cell?_alloc_lt W1 (Obj.cells #[.int .i64 x0, .int .i64 x.f1, .int .i64 x.f2, .int .i64 x.f3] 102) ⟨g, 0, none⟩ hgl).trans hc2
 go_enter Try.func108, Try.ntmps108
 go_wp2
 go_ret
 exact ⟨by first | rfl | (rw [hc0]; rfl), by repeat (first | exact Below.refl _ _ | apply zC | apply zB | apply below_drew)⟩
set_option maxRecDepth 100000 in
set_option maxHeartbeats 4000000 in
theorem impl_FrameOk.calls (a0_0 a0_1 a0_2 a0_3 : Int) (A0_4 : Option Addr) (c0_4 : Nat) (l0_4 : List (S102)) (r : Bool) (w : World) (hr0_4 : Kd.C k102 w A0_4 l0_4.length l0_4) (hc0_4 : l0_4.length ≤ c0_4) (h : impl_FrameOk.f a0_0 a0_1 a0_2 a0_3 l0_4 = some r) :
  Calls Try.prog 52 #[.agg #[.int .i64 a0_0, .int .i64 a0_1, .int .i64 a0_2, .int .i64 a0_3, .slice A0_4 l0_4.length c0_4]] w fun e w' => e = .returned (.bool r) ∧ Below w.heap.size w w' := by
 have HM := zA (Option.some.inj h)
 have HR := zA hr0_4
 have HC := zA hc0_4
 clear h hr0_4 hc0_4
 go_enter Try.func52, Try.ntmps52
 go_upto_region 1 with (fail)
 have k1 := blk_new w (Obj.cells #[.int .i64 a0_0, .int .i64 a0_1, .int .i64 a0_2, .int .i64 a0_3, .slice A0_4 l0_4.length c0_4] 26)
 have HB := zA (show Below w.heap.size w (w.alloc (Obj.cells #[.int .i64 a0_0, .int .i64 a0_1, .int .i64 a0_2, .int .i64 a0_3, .slice A0_4 l0_4.length c0_4] 26)) from zC (Below.refl _ _) _)
 generalize w.alloc (Obj.cells #[.int .i64 a0_0, .int .i64 a0_1, .int .i64 a0_2, .int .i64 a0_3, .slice A0_4 l0_4.length c0_4] 26) = W1 at k1 HB ⊢
 have K1 := zA k1
 have q0 := zK k1 0
 have q1 := zK k1 1
 have q2 := zK k1 2
 have q3 := zK k1 3
 have q4 := zK k1 4
 simp at q0 q1 q2 q3 q4
 clear k1
 go_cut [46] (fun v46 wc => v46 = .bool (!frameHead a0_0 a0_1 a0_2 a0_3 (l0_4.length : Int)) ∧ Aside0 (wc.heap[w.heap.size]? = some (.cells #[.int .i64 a0_0, .int .i64 a0_1, .int .i64 a0_2, .int .i64 a0_3, .slice A0_4 l0_4.length c0_4] 26 (0, 0))) ∧ Aside0 (Below w.heap.size w wc))
 case first =>
  clear HM
  by_cases h8 : a0_0 = 8
  ·have b8 : (a0_0 != 8) = false := bne_eq_false_iff_eq.mpr h8
   have EP := zA (show (decide (a0_0 = 8) || decide (a0_0 = 12)) = true by rw [zT h8, Bool.true_or])
   clear h8
   cases h1 : (decide (1 ≤ a0_1) && decide (a0_1 ≤ 256))
   ·have E1 := zA h1
    have A1 := zA ((impl_within.val a0_1 1 256).trans (congrArg some h1))
    clear h1
    go_wp2_with (first | (go_at_call 53; (with_reducible refine (impl_within.calls _ _ _ _ _ A1.out).mono ?_); rintro e w' ⟨rfl, ⟨nd, rfl⟩⟩) | (go_at_call 53; (with_reducible refine (impl_within.calls _ _ _ _ _ A2.out).mono ?_); rintro e w' ⟨rfl, ⟨nd, rfl⟩⟩) | (go_at_call 53; (with_reducible refine (impl_within.calls _ _ _ _ _ A4.out).mono ?_); rintro e w' ⟨rfl, ⟨nd, rfl⟩⟩) | (go_at_call 53; (with_reducible refine (impl_within.calls _ _ _ _ _ A5.out).mono ?_); rintro e w' ⟨rfl, ⟨nd, rfl⟩⟩))
    repeat (go_quiet (first | (go_at_call 53; (with_reducible refine (impl_within.calls _ _ _ _ _ A1.out).mono ?_); rintro e w' ⟨rfl, ⟨nd, rfl⟩⟩) | (go_at_call 53; (with_reducible refine (impl_within.calls _ _ _ _ _ A2.out).mono ?_); rintro e w' ⟨rfl, ⟨nd, rfl⟩⟩) | (go_at_call 53; (with_reducible refine (impl_within.calls _ _ _ _ _ A4.out).mono ?_); rintro e w' ⟨rfl, ⟨nd, rfl⟩⟩) | (go_at_call 53; (with_reducible refine (impl_within.calls _ _ _ _ _ A5.out).mono ?_); rintro e w' ⟨rfl, ⟨nd, rfl⟩⟩)); try go_wp2_with (first | (go_at_call 53; (with_reducible refine (impl_within.calls _ _ _ _ _ A1.out).mono ?_); rintro e w' ⟨rfl, ⟨nd, rfl⟩⟩) | (go_at_call 53; (with_reducible refine (impl_within.calls _ _ _ _ _ A2.out).mono ?_); rintro e w' ⟨rfl, ⟨nd, rfl⟩⟩) | (go_at_call 53; (with_reducible refine (impl_within.calls _ _ _ _ _ A4.out).mono ?_); rintro e w' ⟨rfl, ⟨nd, rfl⟩⟩) | (go_at_call 53; (with_reducible refine (impl_within.calls _ _ _ _ _ A5.out).mono ?_); rintro e w' ⟨rfl, ⟨nd, rfl⟩⟩)))
    go_meet
    case rel => exact ⟨by rw [show frameHead a0_0 a0_1 a0_2 a0_3 (l0_4.length : Int) = false from by unfold frameHead headOk; simp only [EP.out, E1.out]; try simp]; rfl, by first | exact K1 | exact ⟨by repeat (first | exact K1.out | apply zG | apply zH)⟩, by first | exact HB | exact ⟨by repeat (first | exact HB.out | apply zB | apply below_drew)⟩⟩
   ·have E1 := zA h1
    have A1 := zA ((impl_within.val a0_1 1 256).trans (congrArg some h1))
    have e1 := h1
    clear h1
    cases h2 : (decide (1 ≤ a0_2) && decide (a0_2 ≤ 256))
    ·have E2 := zA h2
     have A2 := zA ((impl_within.val a0_2 1 256).trans (congrArg some h2))
     clear h2
     go_wp2_with (first | (go_at_call 53; (with_reducible refine (impl_within.calls _ _ _ _ _ A1.out).mono ?_); rintro e w' ⟨rfl, ⟨nd, rfl⟩⟩) | (go_at_call 53; (with_reducible refine (impl_within.calls _ _ _ _ _ A2.out).mono ?_); rintro e w' ⟨rfl, ⟨nd, rfl⟩⟩) | (go_at_call 53; (with_reducible refine (impl_within.calls _ _ _ _ _ A4.out).mono ?_); rintro e w' ⟨rfl, ⟨nd, rfl⟩⟩) | (go_at_call 53; (with_reducible refine (impl_within.calls _ _ _ _ _ A5.out).mono ?_); rintro e w' ⟨rfl, ⟨nd, rfl⟩⟩))
     repeat (go_quiet (first | (go_at_call 53; (with_reducible refine (impl_within.calls _ _ _ _ _ A1.out).mono ?_); rintro e w' ⟨rfl, ⟨nd, rfl⟩⟩) | (go_at_call 53; (with_reducible refine (impl_within.calls _ _ _ _ _ A2.out).mono ?_); rintro e w' ⟨rfl, ⟨nd, rfl⟩⟩) | (go_at_call 53; (with_reducible refine (impl_within.calls _ _ _ _ _ A4.out).mono ?_); rintro e w' ⟨rfl, ⟨nd, rfl⟩⟩) | (go_at_call 53; (with_reducible refine (impl_within.calls _ _ _ _ _ A5.out).mono ?_); rintro e w' ⟨rfl, ⟨nd, rfl⟩⟩)); try go_wp2_with (first | (go_at_call 53; (with_reducible refine (impl_within.calls _ _ _ _ _ A1.out).mono ?_); rintro e w' ⟨rfl, ⟨nd, rfl⟩⟩) | (go_at_call 53; (with_reducible refine (impl_within.calls _ _ _ _ _ A2.out).mono ?_); rintro e w' ⟨rfl, ⟨nd, rfl⟩⟩) | (go_at_call 53; (with_reducible refine (impl_within.calls _ _ _ _ _ A4.out).mono ?_); rintro e w' ⟨rfl, ⟨nd, rfl⟩⟩) | (go_at_call 53; (with_reducible refine (impl_within.calls _ _ _ _ _ A5.out).mono ?_); rintro e w' ⟨rfl, ⟨nd, rfl⟩⟩)))
     go_meet
     case rel => exact ⟨by rw [show frameHead a0_0 a0_1 a0_2 a0_3 (l0_4.length : Int) = false from by unfold frameHead headOk; simp only [EP.out, E1.out, E2.out]; try simp]; rfl, by first | exact K1 | exact ⟨by repeat (first | exact K1.out | apply zG | apply zH)⟩, by first | exact HB | exact ⟨by repeat (first | exact HB.out | apply zB | apply below_drew)⟩⟩
    ·have E2 := zA h2
     have A2 := zA ((impl_within.val a0_2 1 256).trans (congrArg some h2))
     have e2 := h2
     clear h2
     have hm := mul_256 a0_1 a0_2 (by simp only [Bool.and_eq_true, decide_eq_true_eq] at e1; exact e1.1) (by simp only [Bool.and_eq_true, decide_eq_true_eq] at e1; exact e1.2) (by simp only [Bool.and_eq_true, decide_eq_true_eq] at e2; exact e2.1) (by simp only [Bool.and_eq_true, decide_eq_true_eq] at e2; exact e2.2)
     obtain ⟨m, hm0⟩ : ∃ m, m = a0_1 * a0_2 := ⟨_, rfl⟩
     rw [← hm0] at hm
     have w1 : wrap64 (a0_1 * a0_2) = m := by rw [← hm0]; exact wrap_in _ (by omega) (by omega)
     have w2 : IntKind.i64.wrap (a0_1 * a0_2) = m := (i64_w _).trans w1
     have H0 := zA hm0
     clear hm0 hm
     by_cases h3 : m ≤ 16384
     ·have E3 := zA (show decide (a0_1 * a0_2 ≤ 16384) = true by rw [← H0.out]; exact zT h3)
      have d3 : decide (16384 < m) = false := decide_eq_false (by omega)
      clear h3
      cases h4 : (decide (0 ≤ a0_3) && decide (a0_3 ≤ 255))
      ·have E4 := zA h4
       have A4 := zA ((impl_within.val a0_3 0 255).trans (congrArg some h4))
       clear h4
       go_wp2_with (first | (go_at_call 53; (with_reducible refine (impl_within.calls _ _ _ _ _ A1.out).mono ?_); rintro e w' ⟨rfl, ⟨nd, rfl⟩⟩) | (go_at_call 53; (with_reducible refine (impl_within.calls _ _ _ _ _ A2.out).mono ?_); rintro e w' ⟨rfl, ⟨nd, rfl⟩⟩) | (go_at_call 53; (with_reducible refine (impl_within.calls _ _ _ _ _ A4.out).mono ?_); rintro e w' ⟨rfl, ⟨nd, rfl⟩⟩) | (go_at_call 53; (with_reducible refine (impl_within.calls _ _ _ _ _ A5.out).mono ?_); rintro e w' ⟨rfl, ⟨nd, rfl⟩⟩))
       repeat (go_quiet (first | (go_at_call 53; (with_reducible refine (impl_within.calls _ _ _ _ _ A1.out).mono ?_); rintro e w' ⟨rfl, ⟨nd, rfl⟩⟩) | (go_at_call 53; (with_reducible refine (impl_within.calls _ _ _ _ _ A2.out).mono ?_); rintro e w' ⟨rfl, ⟨nd, rfl⟩⟩) | (go_at_call 53; (with_reducible refine (impl_within.calls _ _ _ _ _ A4.out).mono ?_); rintro e w' ⟨rfl, ⟨nd, rfl⟩⟩) | (go_at_call 53; (with_reducible refine (impl_within.calls _ _ _ _ _ A5.out).mono ?_); rintro e w' ⟨rfl, ⟨nd, rfl⟩⟩)); try go_wp2_with (first | (go_at_call 53; (with_reducible refine (impl_within.calls _ _ _ _ _ A1.out).mono ?_); rintro e w' ⟨rfl, ⟨nd, rfl⟩⟩) | (go_at_call 53; (with_reducible refine (impl_within.calls _ _ _ _ _ A2.out).mono ?_); rintro e w' ⟨rfl, ⟨nd, rfl⟩⟩) | (go_at_call 53; (with_reducible refine (impl_within.calls _ _ _ _ _ A4.out).mono ?_); rintro e w' ⟨rfl, ⟨nd, rfl⟩⟩) | (go_at_call 53; (with_reducible refine (impl_within.calls _ _ _ _ _ A5.out).mono ?_); rintro e w' ⟨rfl, ⟨nd, rfl⟩⟩)))
       go_meet
       case rel => exact ⟨by rw [show frameHead a0_0 a0_1 a0_2 a0_3 (l0_4.length : Int) = false from by unfold frameHead headOk; simp only [EP.out, E1.out, E2.out, E3.out, E4.out]; try simp]; rfl, by first | exact K1 | exact ⟨by repeat (first | exact K1.out | apply zG | apply zH)⟩, by first | exact HB | exact ⟨by repeat (first | exact HB.out | apply zB | apply below_drew)⟩⟩
      ·have E4 := zA h4
       have A4 := zA ((impl_within.val a0_3 0 255).trans (congrArg some h4))
       clear h4
       cases h5 : (decide (1 ≤ (l0_4.length : Int)) && decide ((l0_4.length : Int) ≤ 4))
       ·have E5 := zA h5
        have A5 := zA ((impl_within.val (l0_4.length : Int) 1 4).trans (congrArg some h5))
        clear h5
        go_wp2_with (first | (go_at_call 53; (with_reducible refine (impl_within.calls _ _ _ _ _ A1.out).mono ?_); rintro e w' ⟨rfl, ⟨nd, rfl⟩⟩) | (go_at_call 53; (with_reducible refine (impl_within.calls _ _ _ _ _ A2.out).mono ?_); rintro e w' ⟨rfl, ⟨nd, rfl⟩⟩) | (go_at_call 53; (with_reducible refine (impl_within.calls _ _ _ _ _ A4.out).mono ?_); rintro e w' ⟨rfl, ⟨nd, rfl⟩⟩) | (go_at_call 53; (with_reducible refine (impl_within.calls _ _ _ _ _ A5.out).mono ?_); rintro e w' ⟨rfl, ⟨nd, rfl⟩⟩))
        repeat (go_quiet (first | (go_at_call 53; (with_reducible refine (impl_within.calls _ _ _ _ _ A1.out).mono ?_); rintro e w' ⟨rfl, ⟨nd, rfl⟩⟩) | (go_at_call 53; (with_reducible refine (impl_within.calls _ _ _ _ _ A2.out).mono ?_); rintro e w' ⟨rfl, ⟨nd, rfl⟩⟩) | (go_at_call 53; (with_reducible refine (impl_within.calls _ _ _ _ _ A4.out).mono ?_); rintro e w' ⟨rfl, ⟨nd, rfl⟩⟩) | (go_at_call 53; (with_reducible refine (impl_within.calls _ _ _ _ _ A5.out).mono ?_); rintro e w' ⟨rfl, ⟨nd, rfl⟩⟩)); try go_wp2_with (first | (go_at_call 53; (with_reducible refine (impl_within.calls _ _ _ _ _ A1.out).mono ?_); rintro e w' ⟨rfl, ⟨nd, rfl⟩⟩) | (go_at_call 53; (with_reducible refine (impl_within.calls _ _ _ _ _ A2.out).mono ?_); rintro e w' ⟨rfl, ⟨nd, rfl⟩⟩) | (go_at_call 53; (with_reducible refine (impl_within.calls _ _ _ _ _ A4.out).mono ?_); rintro e w' ⟨rfl, ⟨nd, rfl⟩⟩) | (go_at_call 53; (with_reducible refine (impl_within.calls _ _ _ _ _ A5.out).mono ?_); rintro e w' ⟨rfl, ⟨nd, rfl⟩⟩)))
        go_meet
        case rel => exact ⟨by rw [show frameHead a0_0 a0_1 a0_2 a0_3 (l0_4.length : Int) = false from by unfold frameHead headOk; simp only [EP.out, E1.out, E2.out, E3.out, E4.out, E5.out]; try simp]; rfl, by first | exact K1 | exact ⟨by repeat (first | exact K1.out | apply zG | apply zH)⟩, by first | exact HB | exact ⟨by repeat (first | exact HB.out | apply zB | apply below_drew)⟩⟩
       ·have E5 := zA h5
        have A5 := zA ((impl_within.val (l0_4.length : Int) 1 4).trans (congrArg some h5))
        clear h5
        go_wp2_with (first | (go_at_call 53; (with_reducible refine (impl_within.calls _ _ _ _ _ A1.out).mono ?_); rintro e w' ⟨rfl, ⟨nd, rfl⟩⟩) | (go_at_call 53; (with_reducible refine (impl_within.calls _ _ _ _ _ A2.out).mono ?_); rintro e w' ⟨rfl, ⟨nd, rfl⟩⟩) | (go_at_call 53; (with_reducible refine (impl_within.calls _ _ _ _ _ A4.out).mono ?_); rintro e w' ⟨rfl, ⟨nd, rfl⟩⟩) | (go_at_call 53; (with_reducible refine (impl_within.calls _ _ _ _ _ A5.out).mono ?_); rintro e w' ⟨rfl, ⟨nd, rfl⟩⟩))
        repeat (go_quiet (first | (go_at_call 53; (with_reducible refine (impl_within.calls _ _ _ _ _ A1.out).mono ?_); rintro e w' ⟨rfl, ⟨nd, rfl⟩⟩) | (go_at_call 53; (with_reducible refine (impl_within.calls _ _ _ _ _ A2.out).mono ?_); rintro e w' ⟨rfl, ⟨nd, rfl⟩⟩) | (go_at_call 53; (with_reducible refine (impl_within.calls _ _ _ _ _ A4.out).mono ?_); rintro e w' ⟨rfl, ⟨nd, rfl⟩⟩) | (go_at_call 53; (with_reducible refine (impl_within.calls _ _ _ _ _ A5.out).mono ?_); rintro e w' ⟨rfl, ⟨nd, rfl⟩⟩)); try go_wp2_with (first | (go_at_call 53; (with_reducible refine (impl_within.calls _ _ _ _ _ A1.out).mono ?_); rintro e w' ⟨rfl, ⟨nd, rfl⟩⟩) | (go_at_call 53; (with_reducible refine (impl_within.calls _ _ _ _ _ A2.out).mono ?_); rintro e w' ⟨rfl, ⟨nd, rfl⟩⟩) | (go_at_call 53; (with_reducible refine (impl_within.calls _ _ _ _ _ A4.out).mono ?_); rintro e w' ⟨rfl, ⟨nd, rfl⟩⟩) | (go_at_call 53; (with_reducible refine (impl_within.calls _ _ _ _ _ A5.out).mono ?_); rintro e w' ⟨rfl, ⟨nd, rfl⟩⟩)))
        go_meet
        case rel => exact ⟨by rw [show frameHead a0_0 a0_1 a0_2 a0_3 (l0_4.length : Int) = true from by unfold frameHead headOk; rw [EP.out, E1.out, E2.out, E3.out, E4.out, E5.out]; rfl]; rfl, by first | exact K1 | exact ⟨by repeat (first | exact K1.out | apply zG | apply zH)⟩, by first | exact HB | exact ⟨by repeat (first | exact HB.out | apply zB | apply below_drew)⟩⟩
     ·have E3 := zA (show decide (a0_1 * a0_2 ≤ 16384) = false by rw [← H0.out]; exact decide_eq_false h3)
      have d3 : decide (16384 < m) = true := zT (by omega)
      clear h3
      go_wp2_with (first | (go_at_call 53; (with_reducible refine (impl_within.calls _ _ _ _ _ A1.out).mono ?_); rintro e w' ⟨rfl, ⟨nd, rfl⟩⟩) | (go_at_call 53; (with_reducible refine (impl_within.calls _ _ _ _ _ A2.out).mono ?_); rintro e w' ⟨rfl, ⟨nd, rfl⟩⟩) | (go_at_call 53; (with_reducible refine (impl_within.calls _ _ _ _ _ A4.out).mono ?_); rintro e w' ⟨rfl, ⟨nd, rfl⟩⟩) | (go_at_call 53; (with_reducible refine (impl_within.calls _ _ _ _ _ A5.out).mono ?_); rintro e w' ⟨rfl, ⟨nd, rfl⟩⟩))
      repeat (go_quiet (first | (go_at_call 53; (with_reducible refine (impl_within.calls _ _ _ _ _ A1.out).mono ?_); rintro e w' ⟨rfl, ⟨nd, rfl⟩⟩) | (go_at_call 53; (with_reducible refine (impl_within.calls _ _ _ _ _ A2.out).mono ?_); rintro e w' ⟨rfl, ⟨nd, rfl⟩⟩) | (go_at_call 53; (with_reducible refine (impl_within.calls _ _ _ _ _ A4.out).mono ?_); rintro e w' ⟨rfl, ⟨nd, rfl⟩⟩) | (go_at_call 53; (with_reducible refine (impl_within.calls _ _ _ _ _ A5.out).mono ?_); rintro e w' ⟨rfl, ⟨nd, rfl⟩⟩)); try go_wp2_with (first | (go_at_call 53; (with_reducible refine (impl_within.calls _ _ _ _ _ A1.out).mono ?_); rintro e w' ⟨rfl, ⟨nd, rfl⟩⟩) | (go_at_call 53; (with_reducible refine (impl_within.calls _ _ _ _ _ A2.out).mono ?_); rintro e w' ⟨rfl, ⟨nd, rfl⟩⟩) | (go_at_call 53; (with_reducible refine (impl_within.calls _ _ _ _ _ A4.out).mono ?_); rintro e w' ⟨rfl, ⟨nd, rfl⟩⟩) | (go_at_call 53; (with_reducible refine (impl_within.calls _ _ _ _ _ A5.out).mono ?_); rintro e w' ⟨rfl, ⟨nd, rfl⟩⟩)))
      go_meet
      case rel => exact ⟨by rw [show frameHead a0_0 a0_1 a0_2 a0_3 (l0_4.length : Int) = false from by unfold frameHead headOk; simp only [EP.out, E1.out, E2.out, E3.out]; try simp]; rfl, by first | exact K1 | exact ⟨by repeat (first | exact K1.out | apply zG | apply zH)⟩, by first | exact HB | exact ⟨by repeat (first | exact HB.out | apply zB | apply below_drew)⟩⟩
  ·have b8 : (a0_0 != 8) = true := bne_iff_ne.mpr h8
   by_cases h12 : a0_0 = 12
   ·have b12 : (a0_0 != 12) = false := bne_eq_false_iff_eq.mpr h12
    have EP := zA (show (decide (a0_0 = 8) || decide (a0_0 = 12)) = true by rw [zT h12, Bool.or_true])
    clear h8 h12
    cases h1 : (decide (1 ≤ a0_1) && decide (a0_1 ≤ 256))
    ·have E1 := zA h1
     have A1 := zA ((impl_within.val a0_1 1 256).trans (congrArg some h1))
     clear h1
     go_wp2_with (first | (go_at_call 53; (with_reducible refine (impl_within.calls _ _ _ _ _ A1.out).mono ?_); rintro e w' ⟨rfl, ⟨nd, rfl⟩⟩) | (go_at_call 53; (with_reducible refine (impl_within.calls _ _ _ _ _ A2.out).mono ?_); rintro e w' ⟨rfl, ⟨nd, rfl⟩⟩) | (go_at_call 53; (with_reducible refine (impl_within.calls _ _ _ _ _ A4.out).mono ?_); rintro e w' ⟨rfl, ⟨nd, rfl⟩⟩) | (go_at_call 53; (with_reducible refine (impl_within.calls _ _ _ _ _ A5.out).mono ?_); rintro e w' ⟨rfl, ⟨nd, rfl⟩⟩))
     repeat (go_quiet (first | (go_at_call 53; (with_reducible refine (impl_within.calls _ _ _ _ _ A1.out).mono ?_); rintro e w' ⟨rfl, ⟨nd, rfl⟩⟩) | (go_at_call 53; (with_reducible refine (impl_within.calls _ _ _ _ _ A2.out).mono ?_); rintro e w' ⟨rfl, ⟨nd, rfl⟩⟩) | (go_at_call 53; (with_reducible refine (impl_within.calls _ _ _ _ _ A4.out).mono ?_); rintro e w' ⟨rfl, ⟨nd, rfl⟩⟩) | (go_at_call 53; (with_reducible refine (impl_within.calls _ _ _ _ _ A5.out).mono ?_); rintro e w' ⟨rfl, ⟨nd, rfl⟩⟩)); try go_wp2_with (first | (go_at_call 53; (with_reducible refine (impl_within.calls _ _ _ _ _ A1.out).mono ?_); rintro e w' ⟨rfl, ⟨nd, rfl⟩⟩) | (go_at_call 53; (with_reducible refine (impl_within.calls _ _ _ _ _ A2.out).mono ?_); rintro e w' ⟨rfl, ⟨nd, rfl⟩⟩) | (go_at_call 53; (with_reducible refine (impl_within.calls _ _ _ _ _ A4.out).mono ?_); rintro e w' ⟨rfl, ⟨nd, rfl⟩⟩) | (go_at_call 53; (with_reducible refine (impl_within.calls _ _ _ _ _ A5.out).mono ?_); rintro e w' ⟨rfl, ⟨nd, rfl⟩⟩)))
     go_meet
     case rel => exact ⟨by rw [show frameHead a0_0 a0_1 a0_2 a0_3 (l0_4.length : Int) = false from by unfold frameHead headOk; simp only [EP.out, E1.out]; try simp]; rfl, by first | exact K1 | exact ⟨by repeat (first | exact K1.out | apply zG | apply zH)⟩, by first | exact HB | exact ⟨by repeat (first | exact HB.out | apply zB | apply below_drew)⟩⟩
    ·have E1 := zA h1
     have A1 := zA ((impl_within.val a0_1 1 256).trans (congrArg some h1))
     have e1 := h1
     clear h1
     cases h2 : (decide (1 ≤ a0_2) && decide (a0_2 ≤ 256))
     ·have E2 := zA h2
      have A2 := zA ((impl_within.val a0_2 1 256).trans (congrArg some h2))
      clear h2
      go_wp2_with (first | (go_at_call 53; (with_reducible refine (impl_within.calls _ _ _ _ _ A1.out).mono ?_); rintro e w' ⟨rfl, ⟨nd, rfl⟩⟩) | (go_at_call 53; (with_reducible refine (impl_within.calls _ _ _ _ _ A2.out).mono ?_); rintro e w' ⟨rfl, ⟨nd, rfl⟩⟩) | (go_at_call 53; (with_reducible refine (impl_within.calls _ _ _ _ _ A4.out).mono ?_); rintro e w' ⟨rfl, ⟨nd, rfl⟩⟩) | (go_at_call 53; (with_reducible refine (impl_within.calls _ _ _ _ _ A5.out).mono ?_); rintro e w' ⟨rfl, ⟨nd, rfl⟩⟩))
      repeat (go_quiet (first | (go_at_call 53; (with_reducible refine (impl_within.calls _ _ _ _ _ A1.out).mono ?_); rintro e w' ⟨rfl, ⟨nd, rfl⟩⟩) | (go_at_call 53; (with_reducible refine (impl_within.calls _ _ _ _ _ A2.out).mono ?_); rintro e w' ⟨rfl, ⟨nd, rfl⟩⟩) | (go_at_call 53; (with_reducible refine (impl_within.calls _ _ _ _ _ A4.out).mono ?_); rintro e w' ⟨rfl, ⟨nd, rfl⟩⟩) | (go_at_call 53; (with_reducible refine (impl_within.calls _ _ _ _ _ A5.out).mono ?_); rintro e w' ⟨rfl, ⟨nd, rfl⟩⟩)); try go_wp2_with (first | (go_at_call 53; (with_reducible refine (impl_within.calls _ _ _ _ _ A1.out).mono ?_); rintro e w' ⟨rfl, ⟨nd, rfl⟩⟩) | (go_at_call 53; (with_reducible refine (impl_within.calls _ _ _ _ _ A2.out).mono ?_); rintro e w' ⟨rfl, ⟨nd, rfl⟩⟩) | (go_at_call 53; (with_reducible refine (impl_within.calls _ _ _ _ _ A4.out).mono ?_); rintro e w' ⟨rfl, ⟨nd, rfl⟩⟩) | (go_at_call 53; (with_reducible refine (impl_within.calls _ _ _ _ _ A5.out).mono ?_); rintro e w' ⟨rfl, ⟨nd, rfl⟩⟩)))
      go_meet
      case rel => exact ⟨by rw [show frameHead a0_0 a0_1 a0_2 a0_3 (l0_4.length : Int) = false from by unfold frameHead headOk; simp only [EP.out, E1.out, E2.out]; try simp]; rfl, by first | exact K1 | exact ⟨by repeat (first | exact K1.out | apply zG | apply zH)⟩, by first | exact HB | exact ⟨by repeat (first | exact HB.out | apply zB | apply below_drew)⟩⟩
     ·have E2 := zA h2
      have A2 := zA ((impl_within.val a0_2 1 256).trans (congrArg some h2))
      have e2 := h2
      clear h2
      have hm := mul_256 a0_1 a0_2 (by simp only [Bool.and_eq_true, decide_eq_true_eq] at e1; exact e1.1) (by simp only [Bool.and_eq_true, decide_eq_true_eq] at e1; exact e1.2) (by simp only [Bool.and_eq_true, decide_eq_true_eq] at e2; exact e2.1) (by simp only [Bool.and_eq_true, decide_eq_true_eq] at e2; exact e2.2)
      obtain ⟨m, hm0⟩ : ∃ m, m = a0_1 * a0_2 := ⟨_, rfl⟩
      rw [← hm0] at hm
      have w1 : wrap64 (a0_1 * a0_2) = m := by rw [← hm0]; exact wrap_in _ (by omega) (by omega)
      have w2 : IntKind.i64.wrap (a0_1 * a0_2) = m := (i64_w _).trans w1
      have H0 := zA hm0
      clear hm0 hm
      by_cases h3 : m ≤ 16384
      ·have E3 := zA (show decide (a0_1 * a0_2 ≤ 16384) = true by rw [← H0.out]; exact zT h3)
       have d3 : decide (16384 < m) = false := decide_eq_false (by omega)
       clear h3
       cases h4 : (decide (0 ≤ a0_3) && decide (a0_3 ≤ 255))
       ·have E4 := zA h4
        have A4 := zA ((impl_within.val a0_3 0 255).trans (congrArg some h4))
        clear h4
        go_wp2_with (first | (go_at_call 53; (with_reducible refine (impl_within.calls _ _ _ _ _ A1.out).mono ?_); rintro e w' ⟨rfl, ⟨nd, rfl⟩⟩) | (go_at_call 53; (with_reducible refine (impl_within.calls _ _ _ _ _ A2.out).mono ?_); rintro e w' ⟨rfl, ⟨nd, rfl⟩⟩) | (go_at_call 53; (with_reducible refine (impl_within.calls _ _ _ _ _ A4.out).mono ?_); rintro e w' ⟨rfl, ⟨nd, rfl⟩⟩) | (go_at_call 53; (with_reducible refine (impl_within.calls _ _ _ _ _ A5.out).mono ?_); rintro e w' ⟨rfl, ⟨nd, rfl⟩⟩))
        repeat (go_quiet (first | (go_at_call 53; (with_reducible refine (impl_within.calls _ _ _ _ _ A1.out).mono ?_); rintro e w' ⟨rfl, ⟨nd, rfl⟩⟩) | (go_at_call 53; (with_reducible refine (impl_within.calls _ _ _ _ _ A2.out).mono ?_); rintro e w' ⟨rfl, ⟨nd, rfl⟩⟩) | (go_at_call 53; (with_reducible refine (impl_within.calls _ _ _ _ _ A4.out).mono ?_); rintro e w' ⟨rfl, ⟨nd, rfl⟩⟩) | (go_at_call 53; (with_reducible refine (impl_within.calls _ _ _ _ _ A5.out).mono ?_); rintro e w' ⟨rfl, ⟨nd, rfl⟩⟩)); try go_wp2_with (first | (go_at_call 53; (with_reducible refine (impl_within.calls _ _ _ _ _ A1.out).mono ?_); rintro e w' ⟨rfl, ⟨nd, rfl⟩⟩) | (go_at_call 53; (with_reducible refine (impl_within.calls _ _ _ _ _ A2.out).mono ?_); rintro e w' ⟨rfl, ⟨nd, rfl⟩⟩) | (go_at_call 53; (with_reducible refine (impl_within.calls _ _ _ _ _ A4.out).mono ?_); rintro e w' ⟨rfl, ⟨nd, rfl⟩⟩) | (go_at_call 53; (with_reducible refine (impl_within.calls _ _ _ _ _ A5.out).mono ?_); rintro e w' ⟨rfl, ⟨nd, rfl⟩⟩)))
        go_meet
        case rel => exact ⟨by rw [show frameHead a0_0 a0_1 a0_2 a0_3 (l0_4.length : Int) = false from by unfold frameHead headOk; simp only [EP.out, E1.out, E2.out, E3.out, E4.out]; try simp]; rfl, by first | exact K1 | exact ⟨by repeat (first | exact K1.out | apply zG | apply zH)⟩, by first | exact HB | exact ⟨by repeat (first | exact HB.out | apply zB | apply below_drew)⟩⟩
       ·have E4 := zA h4
        have A4 := zA ((impl_within.val a0_3 0 255).trans (congrArg some h4))
        clear h4
        cases h5 : (decide (1 ≤ (l0_4.length : Int)) && decide ((l0_4.length : Int) ≤ 4))
        ·have E5 := zA h5
         have A5 := zA ((impl_within.val (l0_4.length : Int) 1 4).trans (congrArg some h5))
         clear h5
         go_wp2_with (first | (go_at_call 53; (with_reducible refine (impl_within.calls _ _ _ _ _ A1.out).mono ?_); rintro e w' ⟨rfl, ⟨nd, rfl⟩⟩) | (go_at_call 53; (with_reducible refine (impl_within.calls _ _ _ _ _ A2.out).mono ?_); rintro e w' ⟨rfl, ⟨nd, rfl⟩⟩) | (go_at_call 53; (with_reducible refine (impl_within.calls _ _ _ _ _ A4.out).mono ?_); rintro e w' ⟨rfl, ⟨nd, rfl⟩⟩) | (go_at_call 53; (with_reducible refine (impl_within.calls _ _ _ _ _ A5.out).mono ?_); rintro e w' ⟨rfl, ⟨nd, rfl⟩⟩))
         repeat (go_quiet (first | (go_at_call 53; (with_reducible refine (impl_within.calls _ _ _ _ _ A1.out).mono ?_); rintro e w' ⟨rfl, ⟨nd, rfl⟩⟩) | (go_at_call 53; (with_reducible refine (impl_within.calls _ _ _ _ _ A2.out).mono ?_); rintro e w' ⟨rfl, ⟨nd, rfl⟩⟩) | (go_at_call 53; (with_reducible refine (impl_within.calls _ _ _ _ _ A4.out).mono ?_); rintro e w' ⟨rfl, ⟨nd, rfl⟩⟩) | (go_at_call 53; (with_reducible refine (impl_within.calls _ _ _ _ _ A5.out).mono ?_); rintro e w' ⟨rfl, ⟨nd, rfl⟩⟩)); try go_wp2_with (first | (go_at_call 53; (with_reducible refine (impl_within.calls _ _ _ _ _ A1.out).mono ?_); rintro e w' ⟨rfl, ⟨nd, rfl⟩⟩) | (go_at_call 53; (with_reducible refine (impl_within.calls _ _ _ _ _ A2.out).mono ?_); rintro e w' ⟨rfl, ⟨nd, rfl⟩⟩) | (go_at_call 53; (with_reducible refine (impl_within.calls _ _ _ _ _ A4.out).mono ?_); rintro e w' ⟨rfl, ⟨nd, rfl⟩⟩) | (go_at_call 53; (with_reducible refine (impl_within.calls _ _ _ _ _ A5.out).mono ?_); rintro e w' ⟨rfl, ⟨nd, rfl⟩⟩)))
         go_meet
         case rel => exact ⟨by rw [show frameHead a0_0 a0_1 a0_2 a0_3 (l0_4.length : Int) = false from by unfold frameHead headOk; simp only [EP.out, E1.out, E2.out, E3.out, E4.out, E5.out]; try simp]; rfl, by first | exact K1 | exact ⟨by repeat (first | exact K1.out | apply zG | apply zH)⟩, by first | exact HB | exact ⟨by repeat (first | exact HB.out | apply zB | apply below_drew)⟩⟩
        ·have E5 := zA h5
         have A5 := zA ((impl_within.val (l0_4.length : Int) 1 4).trans (congrArg some h5))
         clear h5
         go_wp2_with (first | (go_at_call 53; (with_reducible refine (impl_within.calls _ _ _ _ _ A1.out).mono ?_); rintro e w' ⟨rfl, ⟨nd, rfl⟩⟩) | (go_at_call 53; (with_reducible refine (impl_within.calls _ _ _ _ _ A2.out).mono ?_); rintro e w' ⟨rfl, ⟨nd, rfl⟩⟩) | (go_at_call 53; (with_reducible refine (impl_within.calls _ _ _ _ _ A4.out).mono ?_); rintro e w' ⟨rfl, ⟨nd, rfl⟩⟩) | (go_at_call 53; (with_reducible refine (impl_within.calls _ _ _ _ _ A5.out).mono ?_); rintro e w' ⟨rfl, ⟨nd, rfl⟩⟩))
         repeat (go_quiet (first | (go_at_call 53; (with_reducible refine (impl_within.calls _ _ _ _ _ A1.out).mono ?_); rintro e w' ⟨rfl, ⟨nd, rfl⟩⟩) | (go_at_call 53; (with_reducible refine (impl_within.calls _ _ _ _ _ A2.out).mono ?_); rintro e w' ⟨rfl, ⟨nd, rfl⟩⟩) | (go_at_call 53; (with_reducible refine (impl_within.calls _ _ _ _ _ A4.out).mono ?_); rintro e w' ⟨rfl, ⟨nd, rfl⟩⟩) | (go_at_call 53; (with_reducible refine (impl_within.calls _ _ _ _ _ A5.out).mono ?_); rintro e w' ⟨rfl, ⟨nd, rfl⟩⟩)); try go_wp2_with (first | (go_at_call 53; (with_reducible refine (impl_within.calls _ _ _ _ _ A1.out).mono ?_); rintro e w' ⟨rfl, ⟨nd, rfl⟩⟩) | (go_at_call 53; (with_reducible refine (impl_within.calls _ _ _ _ _ A2.out).mono ?_); rintro e w' ⟨rfl, ⟨nd, rfl⟩⟩) | (go_at_call 53; (with_reducible refine (impl_within.calls _ _ _ _ _ A4.out).mono ?_); rintro e w' ⟨rfl, ⟨nd, rfl⟩⟩) | (go_at_call 53; (with_reducible refine (impl_within.calls _ _ _ _ _ A5.out).mono ?_); rintro e w' ⟨rfl, ⟨nd, rfl⟩⟩)))
         go_meet
         case rel => exact ⟨by rw [show frameHead a0_0 a0_1 a0_2 a0_3 (l0_4.length : Int) = true from by unfold frameHead headOk; rw [EP.out, E1.out, E2.out, E3.out, E4.out, E5.out]; rfl]; rfl, by first | exact K1 | exact ⟨by repeat (first | exact K1.out | apply zG | apply zH)⟩, by first | exact HB | exact ⟨by repeat (first | exact HB.out | apply zB | apply below_drew)⟩⟩
      ·have E3 := zA (show decide (a0_1 * a0_2 ≤ 16384) = false by rw [← H0.out]; exact decide_eq_false h3)
       have d3 : decide (16384 < m) = true := zT (by omega)
       clear h3
       go_wp2_with (first | (go_at_call 53; (with_reducible refine (impl_within.calls _ _ _ _ _ A1.out).mono ?_); rintro e w' ⟨rfl, ⟨nd, rfl⟩⟩) | (go_at_call 53; (with_reducible refine (impl_within.calls _ _ _ _ _ A2.out).mono ?_); rintro e w' ⟨rfl, ⟨nd, rfl⟩⟩) | (go_at_call 53; (with_reducible refine (impl_within.calls _ _ _ _ _ A4.out).mono ?_); rintro e w' ⟨rfl, ⟨nd, rfl⟩⟩) | (go_at_call 53; (with_reducible refine (impl_within.calls _ _ _ _ _ A5.out).mono ?_); rintro e w' ⟨rfl, ⟨nd, rfl⟩⟩))
       repeat (go_quiet (first | (go_at_call 53; (with_reducible refine (impl_within.calls _ _ _ _ _ A1.out).mono ?_); rintro e w' ⟨rfl, ⟨nd, rfl⟩⟩) | (go_at_call 53; (with_reducible refine (impl_within.calls _ _ _ _ _ A2.out).mono ?_); rintro e w' ⟨rfl, ⟨nd, rfl⟩⟩) | (go_at_call 53; (with_reducible refine (impl_within.calls _ _ _ _ _ A4.out).mono ?_); rintro e w' ⟨rfl, ⟨nd, rfl⟩⟩) | (go_at_call 53; (with_reducible refine (impl_within.calls _ _ _ _ _ A5.out).mono ?_); rintro e w' ⟨rfl, ⟨nd, rfl⟩⟩)); try go_wp2_with (first | (go_at_call 53; (with_reducible refine (impl_within.calls _ _ _ _ _ A1.out).mono ?_); rintro e w' ⟨rfl, ⟨nd, rfl⟩⟩) | (go_at_call 53; (with_reducible refine (impl_within.calls _ _ _ _ _ A2.out).mono ?_); rintro e w' ⟨rfl, ⟨nd, rfl⟩⟩) | (go_at_call 53; (with_reducible refine (impl_within.calls _ _ _ _ _ A4.out).mono ?_); rintro e w' ⟨rfl, ⟨nd, rfl⟩⟩) | (go_at_call 53; (with_reducible refine (impl_within.calls _ _ _ _ _ A5.out).mono ?_); rintro e w' ⟨rfl, ⟨nd, rfl⟩⟩)))
       go_meet
       case rel => exact ⟨by rw [show frameHead a0_0 a0_1 a0_2 a0_3 (l0_4.length : Int) = false from by unfold frameHead headOk; simp only [EP.out, E1.out, E2.out, E3.out]; try simp]; rfl, by first | exact K1 | exact ⟨by repeat (first | exact K1.out | apply zG | apply zH)⟩, by first | exact HB | exact ⟨by repeat (first | exact HB.out | apply zB | apply below_drew)⟩⟩
   ·have b12 : (a0_0 != 12) = true := bne_iff_ne.mpr h12
    have EP := zA (show (decide (a0_0 = 8) || decide (a0_0 = 12)) = false by rw [decide_eq_false h8, decide_eq_false h12]; rfl)
    clear h8 h12
    go_wp2_with (first | (go_at_call 53; (with_reducible refine (impl_within.calls _ _ _ _ _ A1.out).mono ?_); rintro e w' ⟨rfl, ⟨nd, rfl⟩⟩) | (go_at_call 53; (with_reducible refine (impl_within.calls _ _ _ _ _ A2.out).mono ?_); rintro e w' ⟨rfl, ⟨nd, rfl⟩⟩) | (go_at_call 53; (with_reducible refine (impl_within.calls _ _ _ _ _ A4.out).mono ?_); rintro e w' ⟨rfl, ⟨nd, rfl⟩⟩) | (go_at_call 53; (with_reducible refine (impl_within.calls _ _ _ _ _ A5.out).mono ?_); rintro e w' ⟨rfl, ⟨nd, rfl⟩⟩))
    repeat (go_quiet (first | (go_at_call 53; (with_reducible refine (impl_within.calls _ _ _ _ _ A1.out).mono ?_); rintro e w' ⟨rfl, ⟨nd, rfl⟩⟩) | (go_at_call 53; (with_reducible refine (impl_within.calls _ _ _ _ _ A2.out).mono ?_); rintro e w' ⟨rfl, ⟨nd, rfl⟩⟩) | (go_at_call 53; (with_reducible refine (impl_within.calls _ _ _ _ _ A4.out).mono ?_); rintro e w' ⟨rfl, ⟨nd, rfl⟩⟩) | (go_at_call 53; (with_reducible refine (impl_within.calls _ _ _ _ _ A5.out).mono ?_); rintro e w' ⟨rfl, ⟨nd, rfl⟩⟩)); try go_wp2_with (first | (go_at_call 53; (with_reducible refine (impl_within.calls _ _ _ _ _ A1.out).mono ?_); rintro e w' ⟨rfl, ⟨nd, rfl⟩⟩) | (go_at_call 53; (with_reducible refine (impl_within.calls _ _ _ _ _ A2.out).mono ?_); rintro e w' ⟨rfl, ⟨nd, rfl⟩⟩) | (go_at_call 53; (with_reducible refine (impl_within.calls _ _ _ _ _ A4.out).mono ?_); rintro e w' ⟨rfl, ⟨nd, rfl⟩⟩) | (go_at_call 53; (with_reducible refine (impl_within.calls _ _ _ _ _ A5.out).mono ?_); rintro e w' ⟨rfl, ⟨nd, rfl⟩⟩)))
    go_meet
    case rel => exact ⟨by rw [show frameHead a0_0 a0_1 a0_2 a0_3 (l0_4.length : Int) = false from by unfold frameHead headOk; simp only [EP.out]; try simp]; rfl, by first | exact K1 | exact ⟨by repeat (first | exact K1.out | apply zG | apply zH)⟩, by first | exact HB | exact ⟨by repeat (first | exact HB.out | apply zB | apply below_drew)⟩⟩
 case rest =>
  clear q0 q1 q2 q3 q4 K1 HB
  obtain ⟨rfl, K1, HB⟩ := hcut
  cases hh : frameHead a0_0 a0_1 a0_2 a0_3 (l0_4.length : Int)
  ·have HH := zA hh
   clear hh
   go_wp2
   go_ret
   exact ⟨by rw [← HM.out, frameOkM, HH.out]; rfl, by repeat (first | exact HB.out | apply zB | apply below_drew)⟩
  ·simp only [Bool.not_true]
   obtain ⟨n1, n4⟩ := frameHead_len hh
   have HG := zA (show compsGo l0_4 0 (l0_4.length - 0) 0 = r by rw [← HM.out, frameOkM, hh]; rfl)
   have n4' : l0_4.length ≤ 4 := by omega
   clear hh HM n1 n4
   have q4 := zK K1.out 4
   simp at q4
   go_wp2
   clear q4
   go_loopw [3, 50] (fun v3 v50 w' => FrRel w a0_0 a0_1 a0_2 a0_3 A0_4 c0_4 l0_4 r v3 v50 w') (fun v3 v50 w' => l0_4.length - (intOf v50).toNat)
   case atStart => exact ⟨0, 0, rfl, rfl, Nat.zero_le _, by omega, by omega, HG, by first | exact K1 | exact ⟨by repeat (first | exact K1.out | apply zG | apply zH)⟩, by first | exact HB | exact ⟨by repeat (first | exact HB.out | apply zB | apply below_drew)⟩⟩
   case round =>
    clear HG K1 HB
    obtain ⟨k, s, rfl, rfl, hk, s0, s1, HG, K1, HB⟩ := hrel
    have q4 := zK K1.out 4
    simp at q4
    by_cases hlt : k < l0_4.length
    ·obtain ⟨ad, e1, hx0, hx1, hx2, hx3⟩ := at_T102 (Kd.C_below HR.out HB.out) (k : Int) (by omega) (by omega)
     cases e1
     rw [Int.toNat_natCast] at hx0 hx1 hx2 hx3
     obtain ⟨x, hxe⟩ : ∃ x, x = rd_T102 l0_4 k := ⟨_, rfl⟩
     rw [← hxe] at hx0 hx1 hx2 hx3
     have HXE := zA hxe
     clear hxe
     have hxl : rd_T102 l0_4 k = l0_4[k] := by simp [rd_T102, hlt]
     go_upto_region 7 with (fail)
     clear hx0 hx1 hx2 hx3 q4
     have k2 := blk_new wr (Obj.cells #[.int .i64 x.f0, .int .i64 x.f1, .int .i64 x.f2, .int .i64 x.f3] 102)
     have K1b := zA (zD K1.out (Obj.cells #[.int .i64 x.f0, .int .i64 x.f1, .int .i64 x.f2, .int .i64 x.f3] 102))
     have HBb := zA (zC HB.out (Obj.cells #[.int .i64 x.f0, .int .i64 x.f1, .int .i64 x.f2, .int .i64 x.f3] 102))
     clear K1 HB hxl
     generalize wr.heap.size = g2 at k2 ⊢
     generalize wr.alloc (Obj.cells #[.int .i64 x.f0, .int .i64 x.f1, .int .i64 x.f2, .int .i64 x.f3] 102) = W2 at k2 K1b HBb ⊢
     have K2 := zA k2
     have b0 := zK k2 0
     have b1 := zK k2 1
     have b2 := zK k2 2
     have b3 := zK k2 3
     simp at b0 b1 b2 b3
     clear k2
     have HD := zA (show compsGo l0_4 k (l0_4.length - k) s = (compOk x && (!idIn l0_4 k x.f0 && compsGo l0_4 (k + 1) (l0_4.length - (k + 1)) (s + x.f1 * x.f2))) by rw [show l0_4.length - k = (l0_4.length - (k + 1)) + 1 by omega, compsGo, ← HXE.out])
     obtain ⟨y0, hy0⟩ : ∃ z, z = x.f0 := ⟨_, rfl⟩
     obtain ⟨y1, hy1⟩ : ∃ z, z = x.f1 := ⟨_, rfl⟩
     obtain ⟨y2, hy2⟩ : ∃ z, z = x.f2 := ⟨_, rfl⟩
     obtain ⟨y3, hy3⟩ : ∃ z, z = x.f3 := ⟨_, rfl⟩
     have HY := zA (And.intro hy0 (And.intro hy1 (And.intro hy2 hy3)))
     rw [← hy0] at b0
     rw [← hy1] at b1
     rw [← hy2] at b2
     rw [← hy3] at b3
     (try rw [← hy0, ← hy1, ← hy2, ← hy3])
     clear hy0 hy1 hy2 hy3
     cases h1 : (decide (0 ≤ y0) && decide (y0 ≤ 255))
     ·have E1 := zA h1
      have A1 := zA ((impl_within.val y0 0 255).trans (congrArg some h1))
      clear h1
      have HF := zA (show r = false by rw [← HG.out, HD.out, show compOk x = false by unfold compOk; rw [← HY.out.1, ← HY.out.2.1, ← HY.out.2.2.1, ← HY.out.2.2.2, E1.out]; simp]; simp)
      go_wp2_with (first | (go_at_call 53; (with_reducible refine (impl_within.calls _ _ _ _ _ A1.out).mono ?_); rintro e w' ⟨rfl, ⟨nd, rfl⟩⟩) | (go_at_call 53; (with_reducible refine (impl_within.calls _ _ _ _ _ A2.out).mono ?_); rintro e w' ⟨rfl, ⟨nd, rfl⟩⟩) | (go_at_call 53; (with_reducible refine (impl_within.calls _ _ _ _ _ A3.out).mono ?_); rintro e w' ⟨rfl, ⟨nd, rfl⟩⟩) | (go_at_call 53; (with_reducible refine (impl_within.calls _ _ _ _ _ A4.out).mono ?_); rintro e w' ⟨rfl, ⟨nd, rfl⟩⟩))
      repeat (go_quiet (first | (go_at_call 53; (with_reducible refine (impl_within.calls _ _ _ _ _ A1.out).mono ?_); rintro e w' ⟨rfl, ⟨nd, rfl⟩⟩) | (go_at_call 53; (with_reducible refine (impl_within.calls _ _ _ _ _ A2.out).mono ?_); rintro e w' ⟨rfl, ⟨nd, rfl⟩⟩) | (go_at_call 53; (with_reducible refine (impl_within.calls _ _ _ _ _ A3.out).mono ?_); rintro e w' ⟨rfl, ⟨nd, rfl⟩⟩) | (go_at_call 53; (with_reducible refine (impl_within.calls _ _ _ _ _ A4.out).mono ?_); rintro e w' ⟨rfl, ⟨nd, rfl⟩⟩)); try go_wp2_with (first | (go_at_call 53; (with_reducible refine (impl_within.calls _ _ _ _ _ A1.out).mono ?_); rintro e w' ⟨rfl, ⟨nd, rfl⟩⟩) | (go_at_call 53; (with_reducible refine (impl_within.calls _ _ _ _ _ A2.out).mono ?_); rintro e w' ⟨rfl, ⟨nd, rfl⟩⟩) | (go_at_call 53; (with_reducible refine (impl_within.calls _ _ _ _ _ A3.out).mono ?_); rintro e w' ⟨rfl, ⟨nd, rfl⟩⟩) | (go_at_call 53; (with_reducible refine (impl_within.calls _ _ _ _ _ A4.out).mono ?_); rintro e w' ⟨rfl, ⟨nd, rfl⟩⟩)))
      go_ret
      exact ⟨by rw [HF.out]; rfl, by repeat (first | exact HBb.out | apply zB | apply below_drew)⟩
     ·have E1 := zA h1
      have A1 := zA ((impl_within.val y0 0 255).trans (congrArg some h1))
      clear h1
      cases h2 : (decide (1 ≤ y1) && decide (y1 ≤ 4))
      ·have E2 := zA h2
       have A2 := zA ((impl_within.val y1 1 4).trans (congrArg some h2))
       clear h2
       have HF := zA (show r = false by rw [← HG.out, HD.out, show compOk x = false by unfold compOk; rw [← HY.out.1, ← HY.out.2.1, ← HY.out.2.2.1, ← HY.out.2.2.2, E1.out, E2.out]; simp]; simp)
       go_wp2_with (first | (go_at_call 53; (with_reducible refine (impl_within.calls _ _ _ _ _ A1.out).mono ?_); rintro e w' ⟨rfl, ⟨nd, rfl⟩⟩) | (go_at_call 53; (with_reducible refine (impl_within.calls _ _ _ _ _ A2.out).mono ?_); rintro e w' ⟨rfl, ⟨nd, rfl⟩⟩) | (go_at_call 53; (with_reducible refine (impl_within.calls _ _ _ _ _ A3.out).mono ?_); rintro e w' ⟨rfl, ⟨nd, rfl⟩⟩) | (go_at_call 53; (with_reducible refine (impl_within.calls _ _ _ _ _ A4.out).mono ?_); rintro e w' ⟨rfl, ⟨nd, rfl⟩⟩))
       repeat (go_quiet (first | (go_at_call 53; (with_reducible refine (impl_within.calls _ _ _ _ _ A1.out).mono ?_); rintro e w' ⟨rfl, ⟨nd, rfl⟩⟩) | (go_at_call 53; (with_reducible refine (impl_within.calls _ _ _ _ _ A2.out).mono ?_); rintro e w' ⟨rfl, ⟨nd, rfl⟩⟩) | (go_at_call 53; (with_reducible refine (impl_within.calls _ _ _ _ _ A3.out).mono ?_); rintro e w' ⟨rfl, ⟨nd, rfl⟩⟩) | (go_at_call 53; (with_reducible refine (impl_within.calls _ _ _ _ _ A4.out).mono ?_); rintro e w' ⟨rfl, ⟨nd, rfl⟩⟩)); try go_wp2_with (first | (go_at_call 53; (with_reducible refine (impl_within.calls _ _ _ _ _ A1.out).mono ?_); rintro e w' ⟨rfl, ⟨nd, rfl⟩⟩) | (go_at_call 53; (with_reducible refine (impl_within.calls _ _ _ _ _ A2.out).mono ?_); rintro e w' ⟨rfl, ⟨nd, rfl⟩⟩) | (go_at_call 53; (with_reducible refine (impl_within.calls _ _ _ _ _ A3.out).mono ?_); rintro e w' ⟨rfl, ⟨nd, rfl⟩⟩) | (go_at_call 53; (with_reducible refine (impl_within.calls _ _ _ _ _ A4.out).mono ?_); rintro e w' ⟨rfl, ⟨nd, rfl⟩⟩)))
       go_ret
       exact ⟨by rw [HF.out]; rfl, by repeat (first | exact HBb.out | apply zB | apply below_drew)⟩
      ·have E2 := zA h2
       have A2 := zA ((impl_within.val y1 1 4).trans (congrArg some h2))
       clear h2
       cases h3 : (decide (1 ≤ y2) && decide (y2 ≤ 4))
       ·have E3 := zA h3
        have A3 := zA ((impl_within.val y2 1 4).trans (congrArg some h3))
        clear h3
        have HF := zA (show r = false by rw [← HG.out, HD.out, show compOk x = false by unfold compOk; rw [← HY.out.1, ← HY.out.2.1, ← HY.out.2.2.1, ← HY.out.2.2.2, E1.out, E2.out, E3.out]; simp]; simp)
        go_wp2_with (first | (go_at_call 53; (with_reducible refine (impl_within.calls _ _ _ _ _ A1.out).mono ?_); rintro e w' ⟨rfl, ⟨nd, rfl⟩⟩) | (go_at_call 53; (with_reducible refine (impl_within.calls _ _ _ _ _ A2.out).mono ?_); rintro e w' ⟨rfl, ⟨nd, rfl⟩⟩) | (go_at_call 53; (with_reducible refine (impl_within.calls _ _ _ _ _ A3.out).mono ?_); rintro e w' ⟨rfl, ⟨nd, rfl⟩⟩) | (go_at_call 53; (with_reducible refine (impl_within.calls _ _ _ _ _ A4.out).mono ?_); rintro e w' ⟨rfl, ⟨nd, rfl⟩⟩))
        repeat (go_quiet (first | (go_at_call 53; (with_reducible refine (impl_within.calls _ _ _ _ _ A1.out).mono ?_); rintro e w' ⟨rfl, ⟨nd, rfl⟩⟩) | (go_at_call 53; (with_reducible refine (impl_within.calls _ _ _ _ _ A2.out).mono ?_); rintro e w' ⟨rfl, ⟨nd, rfl⟩⟩) | (go_at_call 53; (with_reducible refine (impl_within.calls _ _ _ _ _ A3.out).mono ?_); rintro e w' ⟨rfl, ⟨nd, rfl⟩⟩) | (go_at_call 53; (with_reducible refine (impl_within.calls _ _ _ _ _ A4.out).mono ?_); rintro e w' ⟨rfl, ⟨nd, rfl⟩⟩)); try go_wp2_with (first | (go_at_call 53; (with_reducible refine (impl_within.calls _ _ _ _ _ A1.out).mono ?_); rintro e w' ⟨rfl, ⟨nd, rfl⟩⟩) | (go_at_call 53; (with_reducible refine (impl_within.calls _ _ _ _ _ A2.out).mono ?_); rintro e w' ⟨rfl, ⟨nd, rfl⟩⟩) | (go_at_call 53; (with_reducible refine (impl_within.calls _ _ _ _ _ A3.out).mono ?_); rintro e w' ⟨rfl, ⟨nd, rfl⟩⟩) | (go_at_call 53; (with_reducible refine (impl_within.calls _ _ _ _ _ A4.out).mono ?_); rintro e w' ⟨rfl, ⟨nd, rfl⟩⟩)))
        go_ret
        exact ⟨by rw [HF.out]; rfl, by repeat (first | exact HBb.out | apply zB | apply below_drew)⟩
       ·have E3 := zA h3
        have A3 := zA ((impl_within.val y2 1 4).trans (congrArg some h3))
        clear h3
        cases h4 : (decide (0 ≤ y3) && decide (y3 ≤ 3))
        ·have E4 := zA h4
         have A4 := zA ((impl_within.val y3 0 3).trans (congrArg some h4))
         clear h4
         have HF := zA (show r = false by rw [← HG.out, HD.out, show compOk x = false by unfold compOk; rw [← HY.out.1, ← HY.out.2.1, ← HY.out.2.2.1, ← HY.out.2.2.2, E1.out, E2.out, E3.out, E4.out]; simp]; simp)
         go_wp2_with (first | (go_at_call 53; (with_reducible refine (impl_within.calls _ _ _ _ _ A1.out).mono ?_); rintro e w' ⟨rfl, ⟨nd, rfl⟩⟩) | (go_at_call 53; (with_reducible refine (impl_within.calls _ _ _ _ _ A2.out).mono ?_); rintro e w' ⟨rfl, ⟨nd, rfl⟩⟩) | (go_at_call 53; (with_reducible refine (impl_within.calls _ _ _ _ _ A3.out).mono ?_); rintro e w' ⟨rfl, ⟨nd, rfl⟩⟩) | (go_at_call 53; (with_reducible refine (impl_within.calls _ _ _ _ _ A4.out).mono ?_); rintro e w' ⟨rfl, ⟨nd, rfl⟩⟩))
         repeat (go_quiet (first | (go_at_call 53; (with_reducible refine (impl_within.calls _ _ _ _ _ A1.out).mono ?_); rintro e w' ⟨rfl, ⟨nd, rfl⟩⟩) | (go_at_call 53; (with_reducible refine (impl_within.calls _ _ _ _ _ A2.out).mono ?_); rintro e w' ⟨rfl, ⟨nd, rfl⟩⟩) | (go_at_call 53; (with_reducible refine (impl_within.calls _ _ _ _ _ A3.out).mono ?_); rintro e w' ⟨rfl, ⟨nd, rfl⟩⟩) | (go_at_call 53; (with_reducible refine (impl_within.calls _ _ _ _ _ A4.out).mono ?_); rintro e w' ⟨rfl, ⟨nd, rfl⟩⟩)); try go_wp2_with (first | (go_at_call 53; (with_reducible refine (impl_within.calls _ _ _ _ _ A1.out).mono ?_); rintro e w' ⟨rfl, ⟨nd, rfl⟩⟩) | (go_at_call 53; (with_reducible refine (impl_within.calls _ _ _ _ _ A2.out).mono ?_); rintro e w' ⟨rfl, ⟨nd, rfl⟩⟩) | (go_at_call 53; (with_reducible refine (impl_within.calls _ _ _ _ _ A3.out).mono ?_); rintro e w' ⟨rfl, ⟨nd, rfl⟩⟩) | (go_at_call 53; (with_reducible refine (impl_within.calls _ _ _ _ _ A4.out).mono ?_); rintro e w' ⟨rfl, ⟨nd, rfl⟩⟩)))
         go_ret
         exact ⟨by rw [HF.out]; rfl, by repeat (first | exact HBb.out | apply zB | apply below_drew)⟩
        ·have E4 := zA h4
         have A4 := zA ((impl_within.val y3 0 3).trans (congrArg some h4))
         clear h4
         have hc_ : compOk x = true := by unfold compOk; rw [← HY.out.1, ← HY.out.2.1, ← HY.out.2.2.1, ← HY.out.2.2.2, E1.out, E2.out, E3.out, E4.out]; rfl
         have HOK := zA hc_
         have hm_ := mul_16 y1 y2 (by rw [HY.out.2.1]; exact (compOk_of hc_).2.1.1) (by rw [HY.out.2.1]; exact (compOk_of hc_).2.1.2) (by rw [HY.out.2.2.1]; exact (compOk_of hc_).2.2.1.1) (by rw [HY.out.2.2.1]; exact (compOk_of hc_).2.2.1.2)
         obtain ⟨m, hm0⟩ : ∃ m, m = y1 * y2 := ⟨_, rfl⟩
         rw [← hm0] at hm_
         have w1 : wrap64 (y1 * y2) = m := by rw [← hm0]; exact wrap_in _ (by omega) (by omega)
         have w2 : IntKind.i64.wrap (y1 * y2) = m := (i64_w _).trans w1
         have w3 : wrap64 (s + m) = s + m := wrap_in _ (by omega) (by omega)
         have w4 : IntKind.i64.wrap (s + m) = s + m := (i64_w _).trans w3
         have HM0 := zA hm0
         clear hm0 hc_
         have q4 := zK K1b.out 4
         simp at q4
         have hcut := cut_comp (some ad) c0_4 l0_4 k (by omega) HC.out
         have ht_ := Kd.C_below (Kd.C_take HR.out (show k ≤ l0_4.length by omega)) HBb.out; rw [show (l0_4.take k).length = k by rw [zQ]; omega] at ht_; have HT := zA ht_; clear ht_
         cases hid : idIn l0_4 k x.f0
         ·have HI := zA hid
          have hia : (l0_4.take k).any (fun y => decide (y.f0 = x.f0)) = false := hid
          have HIA := zA hia
          clear hid hia
          go_wp2_with (first | (go_at_call 53; (with_reducible refine (impl_within.calls _ _ _ _ _ A1.out).mono ?_); rintro e w' ⟨rfl, ⟨nd, rfl⟩⟩) | (go_at_call 53; (with_reducible refine (impl_within.calls _ _ _ _ _ A2.out).mono ?_); rintro e w' ⟨rfl, ⟨nd, rfl⟩⟩) | (go_at_call 53; (with_reducible refine (impl_within.calls _ _ _ _ _ A3.out).mono ?_); rintro e w' ⟨rfl, ⟨nd, rfl⟩⟩) | (go_at_call 53; (with_reducible refine (impl_within.calls _ _ _ _ _ A4.out).mono ?_); rintro e w' ⟨rfl, ⟨nd, rfl⟩⟩) | (go_at_call 107; (with_reducible refine (cont_CompP.n _ _ (fun _ => True) (fun y => decide (y.f0 = x.f0)) _ k _ (l0_4.take k) _ (by rw [zQ]; omega) ?sp (fun _ _ => trivial) ?sr ?sc (by omega)).mono ?_); (case sp => exact CompP.at_ (frame_id x W2 g2 K2.out) (by repeat (first | exact Below.refl _ _ | apply zB | apply below_drew))); (case sr => repeat (first | exact HT.out | (with_reducible refine yL ?_ _) | (with_reducible refine yM ?_))); (case sc => have := HC.out; omega); rintro e w' ⟨rfl, hb_⟩; have HBc := zA (Below.trans (by repeat (first | exact Below.refl _ _ | apply zB | apply below_drew)) hb_ : Below W2.heap.size W2 w'); clear hb_; rw [HIA.out]; have k2_ := (HBc.out.block _ (blk_lt K2.out)).trans K2.out; have K1c := zA ((HBc.out.block _ (blk_lt K1b.out)).trans K1b.out); have c1_ := zK k2_ 1; have c2_ := zK k2_ 2; simp at c1_ c2_; rw [← HY.out.2.1] at c1_; rw [← HY.out.2.2.1] at c2_; clear k2_))
          repeat (go_quiet (first | (go_at_call 53; (with_reducible refine (impl_within.calls _ _ _ _ _ A1.out).mono ?_); rintro e w' ⟨rfl, ⟨nd, rfl⟩⟩) | (go_at_call 53; (with_reducible refine (impl_within.calls _ _ _ _ _ A2.out).mono ?_); rintro e w' ⟨rfl, ⟨nd, rfl⟩⟩) | (go_at_call 53; (with_reducible refine (impl_within.calls _ _ _ _ _ A3.out).mono ?_); rintro e w' ⟨rfl, ⟨nd, rfl⟩⟩) | (go_at_call 53; (with_reducible refine (impl_within.calls _ _ _ _ _ A4.out).mono ?_); rintro e w' ⟨rfl, ⟨nd, rfl⟩⟩) | (go_at_call 107; (with_reducible refine (cont_CompP.n _ _ (fun _ => True) (fun y => decide (y.f0 = x.f0)) _ k _ (l0_4.take k) _ (by rw [zQ]; omega) ?sp (fun _ _ => trivial) ?sr ?sc (by omega)).mono ?_); (case sp => exact CompP.at_ (frame_id x W2 g2 K2.out) (by repeat (first | exact Below.refl _ _ | apply zB | apply below_drew))); (case sr => repeat (first | exact HT.out | (with_reducible refine yL ?_ _) | (with_reducible refine yM ?_))); (case sc => have := HC.out; omega); rintro e w' ⟨rfl, hb_⟩; have HBc := zA (Below.trans (by repeat (first | exact Below.refl _ _ | apply zB | apply below_drew)) hb_ : Below W2.heap.size W2 w'); clear hb_; rw [HIA.out]; have k2_ := (HBc.out.block _ (blk_lt K2.out)).trans K2.out; have K1c := zA ((HBc.out.block _ (blk_lt K1b.out)).trans K1b.out); have c1_ := zK k2_ 1; have c2_ := zK k2_ 2; simp at c1_ c2_; rw [← HY.out.2.1] at c1_; rw [← HY.out.2.2.1] at c2_; clear k2_)); try go_wp2_with (first | (go_at_call 53; (with_reducible refine (impl_within.calls _ _ _ _ _ A1.out).mono ?_); rintro e w' ⟨rfl, ⟨nd, rfl⟩⟩) | (go_at_call 53; (with_reducible refine (impl_within.calls _ _ _ _ _ A2.out).mono ?_); rintro e w' ⟨rfl, ⟨nd, rfl⟩⟩) | (go_at_call 53; (with_reducible refine (impl_within.calls _ _ _ _ _ A3.out).mono ?_); rintro e w' ⟨rfl, ⟨nd, rfl⟩⟩) | (go_at_call 53; (with_reducible refine (impl_within.calls _ _ _ _ _ A4.out).mono ?_); rintro e w' ⟨rfl, ⟨nd, rfl⟩⟩) | (go_at_call 107; (with_reducible refine (cont_CompP.n _ _ (fun _ => True) (fun y => decide (y.f0 = x.f0)) _ k _ (l0_4.take k) _ (by rw [zQ]; omega) ?sp (fun _ _ => trivial) ?sr ?sc (by omega)).mono ?_); (case sp => exact CompP.at_ (frame_id x W2 g2 K2.out) (by repeat (first | exact Below.refl _ _ | apply zB | apply below_drew))); (case sr => repeat (first | exact HT.out | (with_reducible refine yL ?_ _) | (with_reducible refine yM ?_))); (case sc => have := HC.out; omega); rintro e w' ⟨rfl, hb_⟩; have HBc := zA (Below.trans (by repeat (first | exact Below.refl _ _ | apply zB | apply below_drew)) hb_ : Below W2.heap.size W2 w'); clear hb_; rw [HIA.out]; have k2_ := (HBc.out.block _ (blk_lt K2.out)).trans K2.out; have K1c := zA ((HBc.out.block _ (blk_lt K1b.out)).trans K1b.out); have c1_ := zK k2_ 1; have c2_ := zK k2_ 2; simp at c1_ c2_; rw [← HY.out.2.1] at c1_; rw [← HY.out.2.2.1] at c2_; clear k2_)))
          have HBd := zA (Below.trans HBb.out (Below.mono HBc.out HBb.out.size))
          go_roundw
          case rel => exact ⟨k + 1, s + m, rfl, by go_num, by omega, by omega, by omega, ⟨by have h_ := HD.out; rw [HG.out, HOK.out, HI.out] at h_; rw [HM0.out, HY.out.2.1, HY.out.2.2.1]; exact h_.symm⟩, ⟨by repeat (first | exact K1c.out | apply zG | apply zH)⟩, ⟨by repeat (first | exact HBd.out | apply zB | apply below_drew)⟩⟩
          case measure => simp [intOf]; omega
         ·have HI := zA hid
          have hia : (l0_4.take k).any (fun y => decide (y.f0 = x.f0)) = true := hid
          have HIA := zA hia
          clear hid hia
          have HF := zA (show r = false by rw [← HG.out, HD.out, HI.out]; simp)
          go_wp2_with (first | (go_at_call 53; (with_reducible refine (impl_within.calls _ _ _ _ _ A1.out).mono ?_); rintro e w' ⟨rfl, ⟨nd, rfl⟩⟩) | (go_at_call 53; (with_reducible refine (impl_within.calls _ _ _ _ _ A2.out).mono ?_); rintro e w' ⟨rfl, ⟨nd, rfl⟩⟩) | (go_at_call 53; (with_reducible refine (impl_within.calls _ _ _ _ _ A3.out).mono ?_); rintro e w' ⟨rfl, ⟨nd, rfl⟩⟩) | (go_at_call 53; (with_reducible refine (impl_within.calls _ _ _ _ _ A4.out).mono ?_); rintro e w' ⟨rfl, ⟨nd, rfl⟩⟩) | (go_at_call 107; (with_reducible refine (cont_CompP.n _ _ (fun _ => True) (fun y => decide (y.f0 = x.f0)) _ k _ (l0_4.take k) _ (by rw [zQ]; omega) ?sp (fun _ _ => trivial) ?sr ?sc (by omega)).mono ?_); (case sp => exact CompP.at_ (frame_id x W2 g2 K2.out) (by repeat (first | exact Below.refl _ _ | apply zB | apply below_drew))); (case sr => repeat (first | exact HT.out | (with_reducible refine yL ?_ _) | (with_reducible refine yM ?_))); (case sc => have := HC.out; omega); rintro e w' ⟨rfl, hb_⟩; have HBc := zA (Below.trans (by repeat (first | exact Below.refl _ _ | apply zB | apply below_drew)) hb_ : Below W2.heap.size W2 w'); clear hb_; rw [HIA.out]))
          repeat (go_quiet (first | (go_at_call 53; (with_reducible refine (impl_within.calls _ _ _ _ _ A1.out).mono ?_); rintro e w' ⟨rfl, ⟨nd, rfl⟩⟩) | (go_at_call 53; (with_reducible refine (impl_within.calls _ _ _ _ _ A2.out).mono ?_); rintro e w' ⟨rfl, ⟨nd, rfl⟩⟩) | (go_at_call 53; (with_reducible refine (impl_within.calls _ _ _ _ _ A3.out).mono ?_); rintro e w' ⟨rfl, ⟨nd, rfl⟩⟩) | (go_at_call 53; (with_reducible refine (impl_within.calls _ _ _ _ _ A4.out).mono ?_); rintro e w' ⟨rfl, ⟨nd, rfl⟩⟩) | (go_at_call 107; (with_reducible refine (cont_CompP.n _ _ (fun _ => True) (fun y => decide (y.f0 = x.f0)) _ k _ (l0_4.take k) _ (by rw [zQ]; omega) ?sp (fun _ _ => trivial) ?sr ?sc (by omega)).mono ?_); (case sp => exact CompP.at_ (frame_id x W2 g2 K2.out) (by repeat (first | exact Below.refl _ _ | apply zB | apply below_drew))); (case sr => repeat (first | exact HT.out | (with_reducible refine yL ?_ _) | (with_reducible refine yM ?_))); (case sc => have := HC.out; omega); rintro e w' ⟨rfl, hb_⟩; have HBc := zA (Below.trans (by repeat (first | exact Below.refl _ _ | apply zB | apply below_drew)) hb_ : Below W2.heap.size W2 w'); clear hb_; rw [HIA.out])); try go_wp2_with (first | (go_at_call 53; (with_reducible refine (impl_within.calls _ _ _ _ _ A1.out).mono ?_); rintro e w' ⟨rfl, ⟨nd, rfl⟩⟩) | (go_at_call 53; (with_reducible refine (impl_within.calls _ _ _ _ _ A2.out).mono ?_); rintro e w' ⟨rfl, ⟨nd, rfl⟩⟩) | (go_at_call 53; (with_reducible refine (impl_within.calls _ _ _ _ _ A3.out).mono ?_); rintro e w' ⟨rfl, ⟨nd, rfl⟩⟩) | (go_at_call 53; (with_reducible refine (impl_within.calls _ _ _ _ _ A4.out).mono ?_); rintro e w' ⟨rfl, ⟨nd, rfl⟩⟩) | (go_at_call 107; (with_reducible refine (cont_CompP.n _ _ (fun _ => True) (fun y => decide (y.f0 = x.f0)) _ k _ (l0_4.take k) _ (by rw [zQ]; omega) ?sp (fun _ _ => trivial) ?sr ?sc (by omega)).mono ?_); (case sp => exact CompP.at_ (frame_id x W2 g2 K2.out) (by repeat (first | exact Below.refl _ _ | apply zB | apply below_drew))); (case sr => repeat (first | exact HT.out | (with_reducible refine yL ?_ _) | (with_reducible refine yM ?_))); (case sc => have := HC.out; omega); rintro e w' ⟨rfl, hb_⟩; have HBc := zA (Below.trans (by repeat (first | exact Below.refl _ _ | apply zB | apply below_drew)) hb_ : Below W2.heap.size W2 w'); clear hb_; rw [HIA.out])))
          go_ret
          exact ⟨by rw [HF.out]; rfl, by repeat (first | exact Below.trans HBb.out (Below.mono HBc.out HBb.out.size) | apply zB | apply below_drew)⟩
    ·obtain rfl : k = l0_4.length := by omega
     have HE := zA (show decide (s ≤ 10) = r by have := HG.out; rw [Nat.sub_self] at this; exact this)
     clear HG
     go_wp2
     go_ret
     exact ⟨by rw [← HE.out]; rfl, by repeat (first | exact HB.out | apply zB | apply below_drew)⟩
end Go.Proofs.Ytilimpjcdeeaiaa.G


namespace Go.Proofs.Ytilimpjcdeeaiaa.G
open Go.RowKit Go.Proofs.YtilimpjcdeeaiaaW.PrintWords Go.Proofs.YtilimpjcdeeaiaaW.PrintLast Go.Proofs.YtilimpjcdeeaiaaW.PrintMore
attribute [local go_sem] max2_int min2_int max_two min_two max_three min_three max_four min_four   -- for this text's walks alone
theorem R_block1 (W : World) (g base : Nat) (xs : List Int) (hb : base ≤ g) (h : W.heap[g]? = some (.cells (nums .i64 xs).toArray 3 (0, 0))) (hm : xs.length ≤ 1000000) : Kd.R (Kd.int .i64) 3 W base (fun k => k = g) (.slice (some ⟨g, 0, none⟩) xs.length xs.length) xs := by
 have hl : (nums .i64 xs).length = xs.length := by simp [nums]
 exact Kd.R_of_own ⟨by rw [Nat.mul_one]; exact hl, .inr ⟨g, xs.length, _, rfl, hb, h, Nat.le_refl _, by simp only [maxLen]; omega, by rw [Nat.mul_one]; exact hl, by rw [Nat.mul_one, ← hl]; exact List.take_length⟩⟩ (fun k hk => by injection hk with hk; exact hk.symm)
theorem R_block (W : World) (g base : Nat) (xs : List Int) (hb : base ≤ g) (h : W.heap[g]? = some (.cells (nums .i64 xs).toArray 3 (0, 0))) (hm : xs.length ≤ 1000000) : Kd.R (Kd.int .i64) 3 W base (fun _ => True) (.slice (some ⟨g, 0, none⟩) xs.length xs.length) xs := zP (R_block1 W g base xs hb h hm) (fun _ _ => trivial)
end Go.Proofs.Ytilimpjcdeeaiaa.G


namespace Go.Proofs.Ytilimpjcdeeaiaa.G
open Go.RowKit Go.Proofs.YtilimpjcdeeaiaaW.PrintWords Go.Proofs.YtilimpjcdeeaiaaW.PrintLast Go.Proofs.YtilimpjcdeeaiaaW.PrintMore
attribute [local go_sem] max2_int min2_int max_two min_two max_three min_three max_four min_four   -- for this text's walks alone
abbrev SN := S38
def tellK (want lo : Int) (c : Nat) : Nat → Nat → List (List Int) → Option (List (List Int))
 | 0, _, L => some L
 | m + 1, k, L => if rd (L.getD c []) (k : Int) = want then tellK want lo c m (k + 1) (L.set c ((L.getD c []).set k lo)) else none
def tellC (want lo : Int) (fr n : Nat) : List Int → List (List Int) → Option (List (List Int))
 | [], L => some L
 | c :: cs, L => (tellK want lo c.toNat n fr L).bind (tellC want lo fr n cs)
def Rows64 (n : Nat) (L : List (List Int)) : Prop := L.length = n ∧ ∀ x ∈ L, x.length = 64
theorem Rows64.get {n : Nat} {L : List (List Int)} (h : Rows64 n L) (i : Nat) (hi : i < n) : (L.getD i []).length = 64 := by
 have hl : i < L.length := by rw [h.1]; exact hi
 rw [List.getD_eq_getElem?_getD, List.getElem?_eq_getElem hl]
 exact h.2 _ (List.getElem_mem hl)
theorem Rows64.set {n : Nat} {L : List (List Int)} (h : Rows64 n L) (i k : Nat) (v : Int) (hi : i < n) : Rows64 n (L.set i ((L.getD i []).set k v)) := by
 refine ⟨by rw [List.length_set]; exact h.1, fun x hx => ?_⟩
 rcases List.mem_or_eq_of_mem_set hx with hx | hx
 ·exact h.2 x hx
 ·rw [hx, List.length_set]; exact h.get i hi
def tellR (s : SN) : List (List Int) → Option (List (List Int)) := tellC (if s.f3 > 0 then s.f3 else -1) s.f4 s.f1.toNat (s.f2 - s.f1 + 1).toNat s.f0
end Go.Proofs.Ytilimpjcdeeaiaa.G

