import Derived.Test.YtilimpjcdeeaiaaGreatProg
import Derived.Below
import Derived.Deep.Draws
import Derived.Deep.AppendLies
import Derived.Maps.AppendAt
import Derived.OwnWalk
import Derived.Laws.BytesArg
import Derived.Laws.MakeOwn
import Derived.Laws.OwnMore
import Derived.Deep.OwnRows
import Derived.Tactics
import Derived.Lib.ConvBytes
import Derived.Laws.Slices
import Derived.WalkKit
import Derived.KernelRfl
import Derived.RowKit3
import Derived.Deep.LoopGhost
import Derived.Deep.QuietTactic
import Derived.BigQuiet
import Derived.WideLaws
import Derived.Deep.DeepCutAuto
import Derived.Deep.CutBlock
import Derived.Deep.RegionHeld3
import Derived.Laws.Rows
import Derived.Lib.AppendStr
import Derived.ArgAppend
import Derived.Laws.IdiomCopy
import Derived.OrdersHeld
import Derived.Laws.BitsLemmas
import Derived.RowKit
import Derived.Test.YtilimpjcdeeaiaaGreatMFnExactSameStreamWWords
import Derived.Test.YtilimpjcdeeaiaaGreatMFnExactSameStreamWLast
import Derived.Test.YtilimpjcdeeaiaaGreatMFnExactSameStreamWTab
import Derived.Test.YtilimpjcdeeaiaaGreatMFnExactSameStreamWFour
import Derived.Test.YtilimpjcdeeaiaaGreatMFnExactSameStreamWQPut
import Derived.Test.YtilimpjcdeeaiaaGreatMFnExactSameStreamWApart
import Derived.Test.YtilimpjcdeeaiaaGreatMFnExactSameStreamWArr
import Derived.Test.YtilimpjcdeeaiaaGreatMFnExactSameStreamWZeros
import Derived.Test.YtilimpjcdeeaiaaGreatMFnExactSameStreamWFoot
import Derived.Test.YtilimpjcdeeaiaaGreatMFnExactSameStreamWKept
import Derived.Test.YtilimpjcdeeaiaaGreatMFnExactSameStreamWShare
import Derived.Test.YtilimpjcdeeaiaaGreatMFnExactSameStreamWN
import Derived.Test.YtilimpjcdeeaiaaGreatMFnExactSameStreamWFootNe
import Derived.Test.YtilimpjcdeeaiaaGreatMFnExactSameStreamWAt
import Derived.Test.YtilimpjcdeeaiaaGreatMFnExactSameStreamWEqStruct
import Derived.Test.YtilimpjcdeeaiaaGreatMFnExactSameStreamWRepsOne
import Derived.Test.YtilimpjcdeeaiaaGreatMFnExactSameStreamWInv
import Derived.Test.YtilimpjcdeeaiaaGreatMFnExactSameStreamWInvWords
import Derived.Test.YtilimpjcdeeaiaaGreatMFnExactSameStreamWGuard
import Derived.Test.YtilimpjcdeeaiaaGreatMFnExactSameStreamWNEv
import Derived.Test.YtilimpjcdeeaiaaGreatMFnExactSameStreamWMore
set_option linter.unusedVariables false
set_option linter.unusedSimpArgs false
namespace Go.Proofs.YtilimpjcdeeaiaaGreat.G
open Go.RowKit Go.Proofs.YtilimpjcdeeaiaaGreatW.PrintWords Go.Proofs.YtilimpjcdeeaiaaGreatW.PrintLast Go.Proofs.YtilimpjcdeeaiaaGreatW.PrintMore
attribute [local go_sem] max2_int min2_int max_two min_two max_three min_three max_four min_four   -- for this text's walks alone
abbrev zA := @Aside0.mk
abbrev zB := @pw_below_drewN
abbrev zC := @below_alloc
abbrev zD := @blk_alloc
abbrev zE := @below_set
abbrev zF := @below_drew1
abbrev zG := @blk_drewN
abbrev zH := @blk_drew
abbrev zI := @of_decide_eq_true
abbrev zJ := @blk_frozen
abbrev zK := @blk_cell
abbrev zL := @below_size
abbrev zM := @Kd.R_drewN
abbrev zN := @Kd.R_alloc
abbrev zO := @Kd.R_drew
abbrev zP := @Kd.R_mono
abbrev zQ := @List.length_take
abbrev zR := @List.length_drop
abbrev zS := @Option.bind_some
abbrev zT := @decide_eq_true
abbrev zU := @List.map_toArray
abbrev zV := @List.map_cons
abbrev zW := @List.map_nil
abbrev zX := @Kd.R_types
abbrev zY := @Kd.S_alloc
abbrev zZ := @Kd.S_drewN
abbrev yA := @Kd.S_drew
abbrev yB := @Kd.S_mono
abbrev yC := @Kd.S_far
abbrev yD := @World.size_alloc
abbrev yE := @Kd.R_reads'
abbrev yF := @Kd.C_drewN
abbrev yG := @Kd.C_drew
abbrev yH := @Kd.C_alloc
def errW : Option Int → Value
 | none => .nilIface
 | some c => .iface 0 (.int .i64 c)
theorem errW_none : errW none = .nilIface := rfl
theorem errW_some (c : Int) : errW (some c) = .iface 0 (.int .i64 c) := rfl
theorem info3 : (Tryz.prog.info? 3).map (fun i => (i.zero, i.size, i.bytes)) = some (some (.int .i64 0), 1, 8) := by kernel_rfl
theorem info5 : (Tryz.prog.info? 5).map (fun i => (i.zero, i.size, i.bytes)) = some (some (.int .u8 0), 1, 1) := by kernel_rfl
theorem info25 : (Tryz.prog.info? 25).map (fun i => (i.zero, i.size, i.bytes)) = some (some (.slice none 0 0), 1, 24) := by kernel_rfl
theorem info53 : (Tryz.prog.info? 53).map (fun i => (i.zero, i.size, i.bytes)) = some (some (.agg #[(.int .i64 0), (.int .i64 0), (.int .i64 0), (.int .i64 0)]), 4, 32) := by kernel_rfl
theorem info66 : (Tryz.prog.info? 66).map (fun i => (i.zero, i.size, i.bytes)) = some (some (.slice none 0 0), 1, 24) := by kernel_rfl
theorem info79 : (Tryz.prog.info? 79).map (fun i => (i.zero, i.size, i.bytes)) = some (some (.agg #[(.slice none 0 0), (.int .i64 0), (.int .i64 0), (.int .i64 0), (.int .i64 0)]), 5, 56) := by kernel_rfl
-- the values' own types
structure S95 where
 f0 : Int
 f1 : Int
 f2 : Int
 f3 : Int
def z95 : S95 := ⟨(0 : Int), (0 : Int), (0 : Int), (0 : Int)⟩
def k95 : Kd S95 := Kd.iso (Kd.pair (Kd.int .i64) (Kd.pair (Kd.int .i64) (Kd.pair (Kd.int .i64) (Kd.int .i64)))) (fun x : S95 => (x.f0, x.f1, x.f2, x.f3))
theorem k95_open {w : World} {x : S95} {cs : List Value} (h : k95.K w x cs) : cs = [.int .i64 x.f0, .int .i64 x.f1, .int .i64 x.f2, .int .i64 x.f3] := by
 obtain ⟨_, _, rfl, rfl, ⟨_, _, rfl, rfl, ⟨_, _, rfl, rfl, rfl⟩⟩⟩ := h
 exact rfl
theorem k95_mk (w : World) (x : S95)  : k95.K w x [.int .i64 x.f0, .int .i64 x.f1, .int .i64 x.f2, .int .i64 x.f3] := ⟨[.int .i64 x.f0], [.int .i64 x.f1, .int .i64 x.f2, .int .i64 x.f3], rfl, rfl, ⟨[.int .i64 x.f1], [.int .i64 x.f2, .int .i64 x.f3], rfl, rfl, ⟨[.int .i64 x.f2], [.int .i64 x.f3], rfl, rfl, rfl⟩⟩⟩
def rd_T95 (xs : List S95) (i : Int) : S95 := xs.getD i.toNat z95
theorem at_T95 {w : World} {A : Option Addr} {n : Nat} {xs : List S95} (h : Kd.C k95 w A n xs) (i : Int) (h0 : 0 ≤ i) (h1 : i < n) : ∃ ad , A = some ad ∧ w.cell? (ad.add (i.toNat * 4)) = some (.int .i64 (rd_T95 xs i).f0) ∧ w.cell? ⟨(ad.add (i.toNat * 4)).block, (ad.add (i.toNat * 4)).off + 1, none⟩ = some (.int .i64 (rd_T95 xs i).f1) ∧ w.cell? ⟨(ad.add (i.toNat * 4)).block, (ad.add (i.toNat * 4)).off + 2, none⟩ = some (.int .i64 (rd_T95 xs i).f2) ∧ w.cell? ⟨(ad.add (i.toNat * 4)).block, (ad.add (i.toNat * 4)).off + 3, none⟩ = some (.int .i64 (rd_T95 xs i).f3) := by
 obtain ⟨ad, c, e, _, hK, hc0⟩ := Kd.C_get h z95 i h0 h1
 have hc : ∀ j u, c[j]? = some u → w.cell? (ad.add (i.toNat * 4 + j)) = some u := hc0
 obtain rfl := k95_open hK
 exact ⟨ad, e, hc 0 _ rfl, by rw [← add_field _ _ 1 (by omega)]; exact hc 1 _ rfl, by rw [← add_field _ _ 2 (by omega)]; exact hc 2 _ rfl, by rw [← add_field _ _ 3 (by omega)]; exact hc 3 _ rfl⟩
def rd_L2 (xs : List (List Int)) (i : Int) : (List Int) := xs.getD i.toNat ([] : List Int)
theorem at_L2 {w : World} {A : Option Addr} {n : Nat} {xs : List (List Int)} (h : Kd.C (Kd.slice 3 (Kd.int .i64)) w A n xs) (i : Int) (h0 : 0 ≤ i) (h1 : i < n) : ∃ ad A0 c0, A = some ad ∧ w.cell? (ad.add i.toNat) = some (.slice A0 (rd_L2 xs i).length c0) ∧ (rd_L2 xs i).length ≤ c0 ∧ (Kd.int .i64).C w A0 (rd_L2 xs i).length (rd_L2 xs i) := by
 obtain ⟨ad, c, e, _, hK, hc0⟩ := Kd.C_get h ([] : List Int) i h0 h1
 have hc : ∀ j u, c[j]? = some u → w.cell? (ad.add (i.toNat * 1 + j)) = some u := hc0
 obtain ⟨A0, c0, rfl, l0, g0⟩ := hK
 exact ⟨ad, A0, c0, e, by have hq := hc 0 _ rfl; rwa [Nat.mul_one, Nat.add_zero] at hq, l0, g0⟩
def rd_L3 (xs : List (List (List Int))) (i : Int) : (List (List Int)) := xs.getD i.toNat ([] : List (List Int))
theorem at_L3 {w : World} {A : Option Addr} {n : Nat} {xs : List (List (List Int))} (h : Kd.C (Kd.slice 66 (Kd.slice 3 (Kd.int .i64))) w A n xs) (i : Int) (h0 : 0 ≤ i) (h1 : i < n) : ∃ ad A0 c0, A = some ad ∧ w.cell? (ad.add i.toNat) = some (.slice A0 (rd_L3 xs i).length c0) ∧ (rd_L3 xs i).length ≤ c0 ∧ (Kd.slice 3 (Kd.int .i64)).C w A0 (rd_L3 xs i).length (rd_L3 xs i) := by
 obtain ⟨ad, c, e, _, hK, hc0⟩ := Kd.C_get h ([] : List (List Int)) i h0 h1
 have hc : ∀ j u, c[j]? = some u → w.cell? (ad.add (i.toNat * 1 + j)) = some u := hc0
 obtain ⟨A0, c0, rfl, l0, g0⟩ := hK
 exact ⟨ad, A0, c0, e, by have hq := hc 0 _ rfl; rwa [Nat.mul_one, Nat.add_zero] at hq, l0, g0⟩
structure S70 where
 f0 : (List Int)
 f1 : Int
 f2 : Int
 f3 : Int
 f4 : Int
def z70 : S70 := ⟨([] : List Int), (0 : Int), (0 : Int), (0 : Int), (0 : Int)⟩
def k70 : Kd S70 := Kd.iso (Kd.pair (Kd.slice 3 (Kd.int .i64)) (Kd.pair (Kd.int .i64) (Kd.pair (Kd.int .i64) (Kd.pair (Kd.int .i64) (Kd.int .i64))))) (fun x : S70 => (x.f0, x.f1, x.f2, x.f3, x.f4))
theorem k70_open {w : World} {x : S70} {cs : List Value} (h : k70.K w x cs) : ∃ A0 c0, cs = [.slice A0 x.f0.length c0, .int .i64 x.f1, .int .i64 x.f2, .int .i64 x.f3, .int .i64 x.f4] ∧ x.f0.length ≤ c0 ∧ (Kd.int .i64).C w A0 x.f0.length x.f0 := by
 obtain ⟨_, _, rfl, ⟨A0, c0, rfl, l0, g0⟩, ⟨_, _, rfl, rfl, ⟨_, _, rfl, rfl, ⟨_, _, rfl, rfl, rfl⟩⟩⟩⟩ := h
 exact ⟨A0, c0, rfl, l0, g0⟩
theorem k70_mk (w : World) (x : S70) {A0 : Option Addr} {c0 : Nat} (l0 : x.f0.length ≤ c0) (g0 : (Kd.int .i64).C w A0 x.f0.length x.f0) : k70.K w x [.slice A0 x.f0.length c0, .int .i64 x.f1, .int .i64 x.f2, .int .i64 x.f3, .int .i64 x.f4] := ⟨[.slice A0 x.f0.length c0], [.int .i64 x.f1, .int .i64 x.f2, .int .i64 x.f3, .int .i64 x.f4], rfl, ⟨A0, c0, rfl, l0, g0⟩, ⟨[.int .i64 x.f1], [.int .i64 x.f2, .int .i64 x.f3, .int .i64 x.f4], rfl, rfl, ⟨[.int .i64 x.f2], [.int .i64 x.f3, .int .i64 x.f4], rfl, rfl, ⟨[.int .i64 x.f3], [.int .i64 x.f4], rfl, rfl, rfl⟩⟩⟩⟩
def rd_T70 (xs : List S70) (i : Int) : S70 := xs.getD i.toNat z70
theorem at_T70 {w : World} {A : Option Addr} {n : Nat} {xs : List S70} (h : Kd.C k70 w A n xs) (i : Int) (h0 : 0 ≤ i) (h1 : i < n) : ∃ ad A0 c0, A = some ad ∧ w.cell? (ad.add (i.toNat * 5)) = some (.slice A0 (rd_T70 xs i).f0.length c0) ∧ w.cell? ⟨(ad.add (i.toNat * 5)).block, (ad.add (i.toNat * 5)).off + 1, none⟩ = some (.int .i64 (rd_T70 xs i).f1) ∧ w.cell? ⟨(ad.add (i.toNat * 5)).block, (ad.add (i.toNat * 5)).off + 2, none⟩ = some (.int .i64 (rd_T70 xs i).f2) ∧ w.cell? ⟨(ad.add (i.toNat * 5)).block, (ad.add (i.toNat * 5)).off + 3, none⟩ = some (.int .i64 (rd_T70 xs i).f3) ∧ w.cell? ⟨(ad.add (i.toNat * 5)).block, (ad.add (i.toNat * 5)).off + 4, none⟩ = some (.int .i64 (rd_T70 xs i).f4) ∧ (rd_T70 xs i).f0.length ≤ c0 ∧ (Kd.int .i64).C w A0 (rd_T70 xs i).f0.length (rd_T70 xs i).f0 := by
 obtain ⟨ad, c, e, _, hK, hc0⟩ := Kd.C_get h z70 i h0 h1
 have hc : ∀ j u, c[j]? = some u → w.cell? (ad.add (i.toNat * 5 + j)) = some u := hc0
 obtain ⟨A0, c0, rfl, l0, g0⟩ := k70_open hK
 exact ⟨ad, A0, c0, e, hc 0 _ rfl, by rw [← add_field _ _ 1 (by omega)]; exact hc 1 _ rfl, by rw [← add_field _ _ 2 (by omega)]; exact hc 2 _ rfl, by rw [← add_field _ _ 3 (by omega)]; exact hc 3 _ rfl, by rw [← add_field _ _ 4 (by omega)]; exact hc 4 _ rfl, l0, g0⟩
structure S53 where
 f0 : Int
 f1 : Int
 f2 : Int
 f3 : Int
def z53 : S53 := ⟨(0 : Int), (0 : Int), (0 : Int), (0 : Int)⟩
def k53 : Kd S53 := Kd.iso (Kd.pair (Kd.int .i64) (Kd.pair (Kd.int .i64) (Kd.pair (Kd.int .i64) (Kd.int .i64)))) (fun x : S53 => (x.f0, x.f1, x.f2, x.f3))
theorem k53_open {w : World} {x : S53} {cs : List Value} (h : k53.K w x cs) : cs = [.int .i64 x.f0, .int .i64 x.f1, .int .i64 x.f2, .int .i64 x.f3] := by
 obtain ⟨_, _, rfl, rfl, ⟨_, _, rfl, rfl, ⟨_, _, rfl, rfl, rfl⟩⟩⟩ := h
 exact rfl
theorem k53_openM {w : World} {base : Nat} {ok : Nat → Prop} {x : S53} {cs : List Value} (h : k53.M w base ok x cs) : cs = [.int .i64 x.f0, .int .i64 x.f1, .int .i64 x.f2, .int .i64 x.f3] := by
 obtain ⟨_, _, rfl, rfl, ⟨_, _, rfl, rfl, ⟨_, _, rfl, rfl, rfl⟩⟩⟩ := h
 exact rfl
theorem k53_mkM (w : World) (base : Nat) (ok : Nat → Prop) (x : S53)  : k53.M w base ok x [.int .i64 x.f0, .int .i64 x.f1, .int .i64 x.f2, .int .i64 x.f3] := ⟨[.int .i64 x.f0], [.int .i64 x.f1, .int .i64 x.f2, .int .i64 x.f3], rfl, rfl, ⟨[.int .i64 x.f1], [.int .i64 x.f2, .int .i64 x.f3], rfl, rfl, ⟨[.int .i64 x.f2], [.int .i64 x.f3], rfl, rfl, rfl⟩⟩⟩
def rd_T53 (xs : List S53) (i : Int) : S53 := xs.getD i.toNat z53
theorem at_T53 {w : World} {A : Option Addr} {n : Nat} {xs : List S53} (h : Kd.C k53 w A n xs) (i : Int) (h0 : 0 ≤ i) (h1 : i < n) : ∃ ad , A = some ad ∧ w.cell? (ad.add (i.toNat * 4)) = some (.int .i64 (rd_T53 xs i).f0) ∧ w.cell? ⟨(ad.add (i.toNat * 4)).block, (ad.add (i.toNat * 4)).off + 1, none⟩ = some (.int .i64 (rd_T53 xs i).f1) ∧ w.cell? ⟨(ad.add (i.toNat * 4)).block, (ad.add (i.toNat * 4)).off + 2, none⟩ = some (.int .i64 (rd_T53 xs i).f2) ∧ w.cell? ⟨(ad.add (i.toNat * 4)).block, (ad.add (i.toNat * 4)).off + 3, none⟩ = some (.int .i64 (rd_T53 xs i).f3) := by
 obtain ⟨ad, c, e, _, hK, hc0⟩ := Kd.C_get h z53 i h0 h1
 have hc : ∀ j u, c[j]? = some u → w.cell? (ad.add (i.toNat * 4 + j)) = some u := hc0
 obtain rfl := k53_open hK
 exact ⟨ad, e, hc 0 _ rfl, by rw [← add_field _ _ 1 (by omega)]; exact hc 1 _ rfl, by rw [← add_field _ _ 2 (by omega)]; exact hc 2 _ rfl, by rw [← add_field _ _ 3 (by omega)]; exact hc 3 _ rfl⟩
structure S79 where
 f0 : (List Int)
 f1 : Int
 f2 : Int
 f3 : Int
 f4 : Int
def z79 : S79 := ⟨([] : List Int), (0 : Int), (0 : Int), (0 : Int), (0 : Int)⟩
def k79 : Kd S79 := Kd.iso (Kd.pair (Kd.slice 3 (Kd.int .i64)) (Kd.pair (Kd.int .i64) (Kd.pair (Kd.int .i64) (Kd.pair (Kd.int .i64) (Kd.int .i64))))) (fun x : S79 => (x.f0, x.f1, x.f2, x.f3, x.f4))
theorem k79_open {w : World} {x : S79} {cs : List Value} (h : k79.K w x cs) : ∃ A0 c0, cs = [.slice A0 x.f0.length c0, .int .i64 x.f1, .int .i64 x.f2, .int .i64 x.f3, .int .i64 x.f4] ∧ x.f0.length ≤ c0 ∧ (Kd.int .i64).C w A0 x.f0.length x.f0 := by
 obtain ⟨_, _, rfl, ⟨A0, c0, rfl, l0, g0⟩, ⟨_, _, rfl, rfl, ⟨_, _, rfl, rfl, ⟨_, _, rfl, rfl, rfl⟩⟩⟩⟩ := h
 exact ⟨A0, c0, rfl, l0, g0⟩
theorem k79_openM {w : World} {base : Nat} {ok : Nat → Prop} {x : S79} {cs : List Value} (h : k79.M w base ok x cs) : ∃ v0, cs = [v0, .int .i64 x.f1, .int .i64 x.f2, .int .i64 x.f3, .int .i64 x.f4] ∧ (Kd.int .i64).R 3 w base ok v0 x.f0 := by
 obtain ⟨_, _, rfl, ⟨v0, rfl, g0⟩, ⟨_, _, rfl, rfl, ⟨_, _, rfl, rfl, ⟨_, _, rfl, rfl, rfl⟩⟩⟩⟩ := h
 exact ⟨v0, rfl, g0⟩
theorem k79_mkM (w : World) (base : Nat) (ok : Nat → Prop) (x : S79) {v0 : Value} (g0 : (Kd.int .i64).R 3 w base ok v0 x.f0) : k79.M w base ok x [v0, .int .i64 x.f1, .int .i64 x.f2, .int .i64 x.f3, .int .i64 x.f4] := ⟨[v0], [.int .i64 x.f1, .int .i64 x.f2, .int .i64 x.f3, .int .i64 x.f4], rfl, ⟨v0, rfl, g0⟩, ⟨[.int .i64 x.f1], [.int .i64 x.f2, .int .i64 x.f3, .int .i64 x.f4], rfl, rfl, ⟨[.int .i64 x.f2], [.int .i64 x.f3, .int .i64 x.f4], rfl, rfl, ⟨[.int .i64 x.f3], [.int .i64 x.f4], rfl, rfl, rfl⟩⟩⟩⟩
def rd_T79 (xs : List S79) (i : Int) : S79 := xs.getD i.toNat z79
theorem at_T79 {w : World} {A : Option Addr} {n : Nat} {xs : List S79} (h : Kd.C k79 w A n xs) (i : Int) (h0 : 0 ≤ i) (h1 : i < n) : ∃ ad A0 c0, A = some ad ∧ w.cell? (ad.add (i.toNat * 5)) = some (.slice A0 (rd_T79 xs i).f0.length c0) ∧ w.cell? ⟨(ad.add (i.toNat * 5)).block, (ad.add (i.toNat * 5)).off + 1, none⟩ = some (.int .i64 (rd_T79 xs i).f1) ∧ w.cell? ⟨(ad.add (i.toNat * 5)).block, (ad.add (i.toNat * 5)).off + 2, none⟩ = some (.int .i64 (rd_T79 xs i).f2) ∧ w.cell? ⟨(ad.add (i.toNat * 5)).block, (ad.add (i.toNat * 5)).off + 3, none⟩ = some (.int .i64 (rd_T79 xs i).f3) ∧ w.cell? ⟨(ad.add (i.toNat * 5)).block, (ad.add (i.toNat * 5)).off + 4, none⟩ = some (.int .i64 (rd_T79 xs i).f4) ∧ (rd_T79 xs i).f0.length ≤ c0 ∧ (Kd.int .i64).C w A0 (rd_T79 xs i).f0.length (rd_T79 xs i).f0 := by
 obtain ⟨ad, c, e, _, hK, hc0⟩ := Kd.C_get h z79 i h0 h1
 have hc : ∀ j u, c[j]? = some u → w.cell? (ad.add (i.toNat * 5 + j)) = some u := hc0
 obtain ⟨A0, c0, rfl, l0, g0⟩ := k79_open hK
 exact ⟨ad, A0, c0, e, hc 0 _ rfl, by rw [← add_field _ _ 1 (by omega)]; exact hc 1 _ rfl, by rw [← add_field _ _ 2 (by omega)]; exact hc 2 _ rfl, by rw [← add_field _ _ 3 (by omega)]; exact hc 3 _ rfl, by rw [← add_field _ _ 4 (by omega)]; exact hc 4 _ rfl, l0, g0⟩
structure S37 where
 f0 : Int
 f1 : Int
 f2 : Int
 f3 : Int
 f4 : (List S53)
structure S38 where
 f0 : (List (List (List Int)))
structure S41 where
 f0 : S37
 f1 : (List (List Int))
 f2 : S38
 f3 : Int
 f4 : (List S79)
 f5 : (List Int)
end Go.Proofs.YtilimpjcdeeaiaaGreat.G


namespace Go.Proofs.YtilimpjcdeeaiaaGreat.G
open Go.RowKit Go.Proofs.YtilimpjcdeeaiaaGreatW.PrintWords Go.Proofs.YtilimpjcdeeaiaaGreatW.PrintLast Go.Proofs.YtilimpjcdeeaiaaGreatW.PrintMore
attribute [local go_sem] max2_int min2_int max_two min_two max_three min_three max_four min_four   -- for this text's walks alone
section
variable {P : Program} {ops : Array Oper} {Q : Exit → Act → World → Prop} {md : Region.Mode} {S : World → Prop} {ds : List Nat} {T : Bool × List (List Nat × List Nat)} {fuel : Nat} {l : Array Bool} {oi : Oper} {v : Value} {a a' : Act} {w : World}
theorem nxY (i n : Nat) (HT : Aside0 (rtab md ops = T)) (hi : ops[i]? = some oi) (hN : oi.dst = some n) (h : wpAnyLast P md ops Q S ds fuel (l.setIfInBounds i true) a' w) (hc : anyT T l.toList (l.setIfInBounds i true).toList i = true := by kernel_rfl) (hQ : ∀ c a w, Q (.panic c) (a.put oi.dst v) w → Q (.panic c) a w := by exact fun _ _ _ h => h) (hy : Yields P ops oi v a := by exact Or.inl ⟨by rfl, by intro w'; go_simp; with_reducible rfl⟩) (ha : a.put (some n) v = a' := by (simp only [Act.put, List.setIfInBounds_toArray, List.set_cons_zero, List.set_cons_succ, i64_w, i32_w]; rfl)) : wpAnyLast P md ops Q S ds (fuel + 1) l a w := pure_ _ hi hN (any_of HT.out hc) hQ hy ha h
theorem nxV (i n : Nat) (HT : Aside0 (rtab md ops = T)) (hi : ops[i]? = some oi) (hN : oi.dst = some n) (h : wpAnyLast P md ops Q S ds fuel (l.setIfInBounds i true) a' w) (hc : anyT T l.toList (l.setIfInBounds i true).toList i = true := by kernel_rfl) (hQ : ∀ c a w, Q (.panic c) (a.put oi.dst undef) w → Q (.panic c) a w := by exact fun _ _ _ h => h) (hy : Yields P ops oi undef a := by exact Or.inr ⟨by rfl, rfl⟩) (ha : a.put (some n) undef = a' := by (simp only [Act.put, List.setIfInBounds_toArray, List.set_cons_zero, List.set_cons_succ, i64_w, i32_w]; rfl)) : wpAnyLast P md ops Q S ds (fuel + 1) l a w := pure_ _ hi hN (any_of HT.out hc) hQ hy ha h
theorem nxO (i n : Nat) (HT : Aside0 (rtab md ops = T)) (hi : ops[i]? = some oi) (hN : oi.dst = some n) (h : ∀ K : Act → World → Prop, Shut (∀ a' w', S w' → (S w' → wpAnyLast P md ops Q S ds fuel (l.setIfInBounds i true) a' w') → K a' w') → if Region.wanted oi (yielded ops a.tmps) = true then Oper.wp P oi a w K Q else K (a.put (some n) undef) w) (hc : (readyT T.2 l.toList == [i] && l.toList.set i true == (l.setIfInBounds i true).toList) = true := by kernel_rfl) (hd : i ∉ ds := by decide) : wpAnyLast P md ops Q S ds (fuel + 1) l a w := one_ _ hi hN (one_of HT.out hc) hd h
theorem nxW {B : List Nat} (i n : Nat) (HT : Aside0 (rtab md ops = T)) (HW : Aside0 (waitsOk T.2 B = true)) (hS : S w) (hi : ops[i]? = some oi) (hN : oi.dst = some n) (h : wpAnyLast P md ops Q S ds fuel (l.setIfInBounds i true) a' w) (hc : takeW T B ds l.toList (l.setIfInBounds i true).toList i = true := by kernel_rfl) (hQ : ∀ c a w, Q (.panic c) (a.put oi.dst v) w → Q (.panic c) a w := by exact fun _ _ _ h => h) (hy : YieldsIf P ops S oi v a := by exact Or.inl ⟨by rfl, by intro w' hs_; (repeat (obtain ⟨_, hs_⟩ := hs_)); go_simp; with_reducible rfl⟩) (ha : a.put (some n) v = a' := by (simp only [Act.put, List.setIfInBounds_toArray, List.set_cons_zero, List.set_cons_succ, i64_w, i32_w]; rfl)) : wpAnyLast P md ops Q S ds (fuel + 1) l a w := take_ _ hi hN (take_ofW HT.out HW.out hc) hQ hy hS ha h
theorem nxZ (n : Nat) (h : wpAnyLast P md ops Q S ds fuel l a' w) (ha : a.put (some n) v = a' := by (simp only [Act.put, List.setIfInBounds_toArray, List.set_cons_zero, List.set_cons_succ, i64_w, i32_w]; rfl)) : wpAnyLast P md ops Q S ds fuel l (a.put (some n) v) w := norm_ ha h
theorem nxX {rest : List Oper} {o : Oper} {W : World} {N : Tmp} {cs : Array Value} {t : TypeId} (h : ∀ g, g = W.heap.size → ∀ w1, w1.heap[g]? = some (.cells cs t (0, 0)) → Below W.heap.size W w1 → wpList P ops Q rest (a.put o.dst (.pointer (some ⟨g, 0, none⟩))) w1) (hd : o.dst = some N := by rfl) (hg : o.guard = none := by rfl) (hr : (execOp a.eval o).run P W = .ok (.value (.pointer (some ⟨W.heap.size, 0, none⟩))) (W.alloc (.cells cs t (0, 0))) := by (first | (go_simp; done) | (go_simp; rfl))) : wpList P ops Q (o :: rest) a W := box_event hg hd hr h
end
end Go.Proofs.YtilimpjcdeeaiaaGreat.G


namespace Go.Proofs.YtilimpjcdeeaiaaGreat.G
open Go.RowKit Go.Proofs.YtilimpjcdeeaiaaGreatW.PrintWords Go.Proofs.YtilimpjcdeeaiaaGreatW.PrintLast Go.Proofs.YtilimpjcdeeaiaaGreatW.PrintMore
attribute [local go_sem] max2_int min2_int max_two min_two max_three min_three max_four min_four   -- for this text's walks alone
theorem nxh1 (w : World) (n : Nat) : (w.drewN n).heap = w.heap := rfl
theorem nxh2 (w : World) : w.drew.heap = w.heap := rfl
theorem nxB {w0 w w1 : World} {g : Nat} {o : Obj} (hb : Below w0.heap.size w0 w1) (h : Aside0 (w.heap[g]? = some o)) (q : w0.heap = w.heap := by (with_reducible (first | rfl | simp only [nxh1, nxh2]))) : Aside0 (w1.heap[g]? = some o) := ⟨blk_below (by rw [q]; exact h.out) hb⟩
theorem nxH {w w5 w0 w1 : World} (hb : Below w0.heap.size w0 w1) (h : Aside0 (Below w.heap.size w w5)) (q : Below w.heap.size w w5 → Below w.heap.size w w0 := by (intro h; with_reducible (repeat (first | exact h | apply zB | apply zF)))) : Aside0 (Below w.heap.size w w1) := ⟨below_step (q h.out) hb⟩
theorem nxG {w w5 : World} {g : Nat} (h : Aside0 (Below w.heap.size w w5)) (hg : g = w5.heap.size) : Aside0 (w.heap.size ≤ g) := ⟨by rw [hg]; exact h.out.size⟩
theorem nxL {w : World} {g g1 : Nat} {o : Obj} (h : Aside0 (w.heap[g]? = some o)) (hg : g1 = w.heap.size) : Aside0 (g ≠ g1) := ⟨by rw [hg]; exact Nat.ne_of_lt (blk_lt h.out)⟩
theorem nxK {w : World} {g g1 : Nat} {o : Obj} (h : Aside0 (w.heap[g]? = some o)) (hg : g1 = w.heap.size) : Aside0 (g1 ≠ g) := ⟨by rw [hg]; exact Nat.ne_of_gt (blk_lt h.out)⟩
theorem nxR {α : Type} {d : Kd α} {e : Nat} {base : Nat} {ok : Nat → Prop} {v : Value} {xs : List α} {w0 w w1 : World} (hb : Below w0.heap.size w0 w1) (h : Aside0 (d.R e w base ok v xs)) (q : w0.heap = w.heap := by (with_reducible (first | rfl | simp only [nxh1, nxh2]))) : Aside0 (d.R e w1 base ok v xs) := ⟨Kd.R_step h.out (fun k _ hk => by rw [← q] at hk ⊢; exact hb.block k hk)⟩
theorem nxS {α : Type} {d : Kd α} {e : Nat} {base : Nat} {ok : Nat → Prop} {v : Value} {xs : List α} {w0 w w1 : World} (hb : Below w0.heap.size w0 w1) (h : Aside0 (Kd.S d e w base ok v xs)) (q : w0.heap = w.heap := by (with_reducible (first | rfl | simp only [nxh1, nxh2]))) : Aside0 (Kd.S d e w1 base ok v xs) := ⟨Kd.S_step h.out (fun k _ hk => by rw [← q] at hk ⊢; exact hb.block k hk)⟩
theorem nxC {α : Type} {d : Kd α} {xs : List α} {w w5 w0 : World} {A : Option Addr} {n : Nat} (h : Aside0 (d.C w A n xs)) (hb : Aside0 (Below w.heap.size w w5)) (q : Below w.heap.size w w5 → Below w.heap.size w w0 := by (intro h; with_reducible (repeat (first | exact h | apply zB | apply zF)))) : d.C w0 A n xs := Kd.C_below h.out (q hb.out)
theorem nxD {w w5 w0 : World} (hb : Aside0 (Below w.heap.size w w5)) (q : Below w.heap.size w w5 → Below w.heap.size w w0 := by (intro h; with_reducible (repeat (first | exact h | apply zB | apply zF)))) : Below w.heap.size w w0 := q hb.out
theorem nxF {α : Type} {d : Kd α} {e : Nat} {base : Nat} {ok : Nat → Prop} {v : Value} {xs : List α} {v0 : Value} {w0 w w1 : World} (hb : Below w0.heap.size w0 w1) (h : Aside0 (Kd.S d e w base ok v xs)) (hv : ∀ k, v0.ownBlock = some k → w0.heap.size ≤ k) (q : w0.heap = w.heap := by (with_reducible (first | rfl | simp only [nxh1, nxh2]))) : Aside0 (Kd.S d e w1 base (fun k => ok k ∧ some k ≠ v0.ownBlock) v xs) := ⟨Kd.S_elder' (Kd.S_step h.out (fun k _ hk => by rw [q])) hv hb⟩
theorem cz3 {w : World} {g : Nat} {c0 c1 c2 : Value} {t : TypeId} (h : Aside0 (w.heap[g]? = some (.cells #[c0, c1, c2] t (0, 0)))) : w.cell? ⟨g, 0, none⟩ = some c0 ∧ w.cell? ⟨g, 1, none⟩ = some c1 ∧ w.cell? ⟨g, 2, none⟩ = some c2 := ⟨(zK h.out 0).trans rfl, (zK h.out 1).trans rfl, (zK h.out 2).trans rfl⟩
theorem cz4 {w : World} {g : Nat} {c0 c1 c2 c3 : Value} {t : TypeId} (h : Aside0 (w.heap[g]? = some (.cells #[c0, c1, c2, c3] t (0, 0)))) : w.cell? ⟨g, 0, none⟩ = some c0 ∧ w.cell? ⟨g, 1, none⟩ = some c1 ∧ w.cell? ⟨g, 2, none⟩ = some c2 ∧ w.cell? ⟨g, 3, none⟩ = some c3 := ⟨(zK h.out 0).trans rfl, (zK h.out 1).trans rfl, (zK h.out 2).trans rfl, (zK h.out 3).trans rfl⟩
theorem fz4 {w : World} {g : Nat} {cs : Array Value} {t : TypeId} (h : Aside0 (w.heap[g]? = some (.cells cs t (0, 0)))) : w.frozen? ⟨g, 0, none⟩ = false ∧ w.frozen? ⟨g, 1, none⟩ = false ∧ w.frozen? ⟨g, 2, none⟩ = false ∧ w.frozen? ⟨g, 3, none⟩ = false := ⟨zJ h.out 0, zJ h.out 1, zJ h.out 2, zJ h.out 3⟩
theorem cz5 {w : World} {g : Nat} {c0 c1 c2 c3 c4 : Value} {t : TypeId} (h : Aside0 (w.heap[g]? = some (.cells #[c0, c1, c2, c3, c4] t (0, 0)))) : w.cell? ⟨g, 0, none⟩ = some c0 ∧ w.cell? ⟨g, 1, none⟩ = some c1 ∧ w.cell? ⟨g, 2, none⟩ = some c2 ∧ w.cell? ⟨g, 3, none⟩ = some c3 ∧ w.cell? ⟨g, 4, none⟩ = some c4 := ⟨(zK h.out 0).trans rfl, (zK h.out 1).trans rfl, (zK h.out 2).trans rfl, (zK h.out 3).trans rfl, (zK h.out 4).trans rfl⟩
theorem fz5 {w : World} {g : Nat} {cs : Array Value} {t : TypeId} (h : Aside0 (w.heap[g]? = some (.cells cs t (0, 0)))) : w.frozen? ⟨g, 0, none⟩ = false ∧ w.frozen? ⟨g, 1, none⟩ = false ∧ w.frozen? ⟨g, 2, none⟩ = false ∧ w.frozen? ⟨g, 3, none⟩ = false ∧ w.frozen? ⟨g, 4, none⟩ = false := ⟨zJ h.out 0, zJ h.out 1, zJ h.out 2, zJ h.out 3, zJ h.out 4⟩
theorem cz10 {w : World} {g : Nat} {c0 c1 c2 c3 c4 c5 c6 c7 c8 c9 : Value} {t : TypeId} (h : Aside0 (w.heap[g]? = some (.cells #[c0, c1, c2, c3, c4, c5, c6, c7, c8, c9] t (0, 0)))) : w.cell? ⟨g, 0, none⟩ = some c0 ∧ w.cell? ⟨g, 1, none⟩ = some c1 ∧ w.cell? ⟨g, 2, none⟩ = some c2 ∧ w.cell? ⟨g, 3, none⟩ = some c3 ∧ w.cell? ⟨g, 4, none⟩ = some c4 ∧ w.cell? ⟨g, 5, none⟩ = some c5 ∧ w.cell? ⟨g, 6, none⟩ = some c6 ∧ w.cell? ⟨g, 7, none⟩ = some c7 ∧ w.cell? ⟨g, 8, none⟩ = some c8 ∧ w.cell? ⟨g, 9, none⟩ = some c9 := ⟨(zK h.out 0).trans rfl, (zK h.out 1).trans rfl, (zK h.out 2).trans rfl, (zK h.out 3).trans rfl, (zK h.out 4).trans rfl, (zK h.out 5).trans rfl, (zK h.out 6).trans rfl, (zK h.out 7).trans rfl, (zK h.out 8).trans rfl, (zK h.out 9).trans rfl⟩
theorem fz10 {w : World} {g : Nat} {cs : Array Value} {t : TypeId} (h : Aside0 (w.heap[g]? = some (.cells cs t (0, 0)))) : w.frozen? ⟨g, 0, none⟩ = false ∧ w.frozen? ⟨g, 1, none⟩ = false ∧ w.frozen? ⟨g, 2, none⟩ = false ∧ w.frozen? ⟨g, 3, none⟩ = false ∧ w.frozen? ⟨g, 4, none⟩ = false ∧ w.frozen? ⟨g, 5, none⟩ = false ∧ w.frozen? ⟨g, 6, none⟩ = false ∧ w.frozen? ⟨g, 7, none⟩ = false ∧ w.frozen? ⟨g, 8, none⟩ = false ∧ w.frozen? ⟨g, 9, none⟩ = false := ⟨zJ h.out 0, zJ h.out 1, zJ h.out 2, zJ h.out 3, zJ h.out 4, zJ h.out 5, zJ h.out 6, zJ h.out 7, zJ h.out 8, zJ h.out 9⟩
theorem nxT {α : Type} {d : Kd α} {e : Nat} {base : Nat} {ok : Nat → Prop} {v : Value} {xs : List α} {w0 w : World} (h : Aside0 (d.R e w base ok v xs)) (q : w0.heap = w.heap := by (with_reducible (first | rfl | simp only [nxh1, nxh2]))) : d.R e w0 base ok v xs := Kd.R_step h.out (fun k _ hk => by rw [q])
theorem nxU {α : Type} {d : Kd α} {e : Nat} {base : Nat} {ok : Nat → Prop} {v : Value} {xs : List α} {w0 w : World} (h : Aside0 (Kd.S d e w base ok v xs)) (q : w0.heap = w.heap := by (with_reducible (first | rfl | simp only [nxh1, nxh2]))) : Kd.S d e w0 base ok v xs := Kd.S_step h.out (fun k _ hk => by rw [q])
end Go.Proofs.YtilimpjcdeeaiaaGreat.G


namespace Go.Proofs.YtilimpjcdeeaiaaGreat.G
open Go.RowKit Go.Proofs.YtilimpjcdeeaiaaGreatW.PrintWords Go.Proofs.YtilimpjcdeeaiaaGreatW.PrintLast Go.Proofs.YtilimpjcdeeaiaaGreatW.PrintMore
attribute [local go_sem] max2_int min2_int max_two min_two max_three min_three max_four min_four   -- for this text's walks alone
def laws_toComp.f (a0_0 : Int) (a0_1 : Int) (a0_2 : Int) (a0_3 : Int) : Option (Int × Int × Int × Int) := some (a0_0, a0_1, a0_2, a0_3)
set_option maxHeartbeats 8000000 in
set_option maxRecDepth 100000 in
theorem laws_toComp.calls (a0_0 : Int) (a0_1 : Int) (a0_2 : Int) (a0_3 : Int) (r1 : Int) (r2 : Int) (r3 : Int) (r4 : Int) (w : World) (h : laws_toComp.f a0_0 a0_1 a0_2 a0_3 = some (r1, r2, r3, r4)) :
  Calls Tryz.prog 63 #[.agg #[.int .i64 a0_0, .int .i64 a0_1, .int .i64 a0_2, .int .i64 a0_3]] w fun e w' => e = .returned (.agg #[.int .i64 r1, .int .i64 r2, .int .i64 r3, .int .i64 r4]) ∧ Below w.heap.size w w' := by
 have hu95 := Tryz.underlying95
 have hu53 := Tryz.underlying53
 have HB := zA (Below.refl w.heap.size w)
 have H : (some (a0_0, a0_1, a0_2, a0_3)) = some (r1, r2, r3, r4) := h
 clear h
 simp only [Option.some.injEq, Prod.mk.injEq] at H
 obtain ⟨rfl, rfl, rfl, rfl⟩ := H
 go_enter Tryz.func63, Tryz.ntmps63
 go_wp2_with (first | ((with_reducible refine gate_dst (N := 1) rfl ?_); refine nxX (N := 1) (cs := #[.int .i64 a0_0, .int .i64 a0_1, .int .i64 a0_2, .int .i64 a0_3]) (t := 95) ?_; intro gb262 hg w2 hbox hb; have n0_ := nxH hb HB; have n1_ := zA (hbox); have n2_ := nxG HB hg; have n3_ := nxG HB hg; clear HB; have HB := n0_; have BK262 := n1_; have GW262 := n2_; have GE262 := n3_; clear n0_ n1_ n2_ n3_; clear hb hbox hg) | ((with_reducible refine gate_dst (N := 2) rfl ?_); refine nxX (N := 2) (cs := #[.int .i64 0, .int .i64 0, .int .i64 0, .int .i64 0]) (t := 53) ?_; intro gb263 hg w3 hbox hb; have n0_ := nxB hb BK262; have n1_ := nxH hb HB; have n2_ := zA (hbox); have n3_ := nxG HB hg; have n4_ := nxG HB hg; have n5_ := nxL BK262 hg; have n6_ := nxK BK262 hg; clear BK262; clear HB; have BK262 := n0_; have HB := n1_; have BK263 := n2_; have GW263 := n3_; have GE263 := n4_; have NB262_263 := n5_; have NB263_262 := n6_; clear n0_ n1_ n2_ n3_ n4_ n5_ n6_; clear hb hbox hg) | ((with_reducible refine gate_dst (N := 3) rfl ?_); refine nxX (N := 3) (cs := #[.int .i64 0, .int .i64 0, .int .i64 0, .int .i64 0]) (t := 53) ?_; intro gb264 hg w4 hbox hb; have n0_ := nxB hb BK262; have n1_ := nxB hb BK263; have n2_ := nxH hb HB; have n3_ := zA (hbox); have n4_ := nxG HB hg; have n5_ := nxG HB hg; have n6_ := nxL BK262 hg; have n7_ := nxK BK262 hg; have n8_ := nxL BK263 hg; have n9_ := nxK BK263 hg; clear BK262; clear BK263; clear HB; have BK262 := n0_; have BK263 := n1_; have HB := n2_; have BK264 := n3_; have GW264 := n4_; have GE264 := n5_; have NB262_264 := n6_; have NB264_262 := n7_; have NB263_264 := n8_; have NB264_263 := n9_; clear n0_ n1_ n2_ n3_ n4_ n5_ n6_ n7_ n8_ n9_; clear hb hbox hg; have hnb5 := NB262_263.out; have hnc5 := NB263_262.out; have hnb6 := NB262_264.out; have hnc6 := NB264_262.out; obtain ⟨hcz7_0, hcz7_1, hcz7_2, hcz7_3⟩ := cz4 BK262; obtain ⟨hfz7_0, hfz7_1, hfz7_2, hfz7_3⟩ := fz4 BK262; have hnb8 := NB264_263.out; have hnc8 := NB263_264.out; obtain ⟨hcz9_0, hcz9_1, hcz9_2, hcz9_3⟩ := cz4 BK264; obtain ⟨hfz9_0, hfz9_1, hfz9_2, hfz9_3⟩ := fz4 BK264; obtain ⟨hcz10_0, hcz10_1, hcz10_2, hcz10_3⟩ := cz4 BK263; obtain ⟨hfz10_0, hfz10_1, hfz10_2, hfz10_3⟩ := fz4 BK263))
 refine bodyPost_ret (results_cell_row rfl _ _ gb263 53 #[.int .i64 a0_0, .int .i64 a0_1, .int .i64 a0_2, .int .i64 a0_3] (0, 0) _ rfl (by (with_reducible repeat (first | refine zG ?_ _ | refine zH ?_ | refine zD ?_ _)); refine blk_put (cs := #[.int .i64 a0_0, .int .i64 a0_1, .int .i64 a0_2, .int .i64 0]) ?_ 3 _ rfl; (with_reducible repeat (first | refine zG ?_ _ | refine zH ?_ | refine zD ?_ _)); refine blk_put (cs := #[.int .i64 a0_0, .int .i64 a0_1, .int .i64 0, .int .i64 0]) ?_ 2 _ rfl; (with_reducible repeat (first | refine zG ?_ _ | refine zH ?_ | refine zD ?_ _)); refine blk_put (cs := #[.int .i64 a0_0, .int .i64 0, .int .i64 0, .int .i64 0]) ?_ 1 _ rfl; (with_reducible repeat (first | refine zG ?_ _ | refine zH ?_ | refine zD ?_ _)); refine blk_put (cs := #[.int .i64 0, .int .i64 0, .int .i64 0, .int .i64 0]) ?_ 0 _ rfl; (with_reducible repeat (first | refine zG ?_ _ | refine zH ?_ | refine zD ?_ _)); refine blk_far ?_ NB263_264.out _; (with_reducible repeat (first | refine zG ?_ _ | refine zH ?_ | refine zD ?_ _)); refine blk_far ?_ NB263_264.out _; (with_reducible repeat (first | refine zG ?_ _ | refine zH ?_ | refine zD ?_ _)); refine blk_far ?_ NB263_264.out _; (with_reducible repeat (first | refine zG ?_ _ | refine zH ?_ | refine zD ?_ _)); refine blk_far ?_ NB263_264.out _; (with_reducible repeat (first | refine zG ?_ _ | refine zH ?_ | refine zD ?_ _)); exact BK263.out) Tryz.underlying53 rfl (by kernel_rfl)) rfl ?_
 exact ⟨rfl, by repeat (first | (with_reducible first | exact HB.out | apply zC | apply zB | apply zF | refine zE ?_ GE262.out | refine zE ?_ GE263.out | refine zE ?_ GE264.out) | exact HB.out)⟩
end Go.Proofs.YtilimpjcdeeaiaaGreat.G


namespace Go.Proofs.YtilimpjcdeeaiaaGreat.G
open Go.RowKit Go.Proofs.YtilimpjcdeeaiaaGreatW.PrintWords Go.Proofs.YtilimpjcdeeaiaaGreatW.PrintLast Go.Proofs.YtilimpjcdeeaiaaGreatW.PrintMore
attribute [local go_sem] max2_int min2_int max_two min_two max_three min_three max_four min_four   -- for this text's walks alone
theorem S_put1 {α : Type} {d : Kd α} {e g n cap base : Nat} {W w1 : World} {xs : List α} {u : Value} {x' : α} (hd : d.sz = 1) (h : Kd.S d e W base (fun _ => True) (.slice (some ⟨g, 0, none⟩) n cap) xs) (hb : Below W.heap.size W w1) (z : α) (i : Int) (h0 : 0 ≤ i) (h1 : i < n)
  (hM : d.M w1 base (fun k => W.heap.size ≤ k) x' [u]) : Kd.S d e (w1.setCell ⟨g, i.toNat, none⟩ u) base (fun _ => True) (.slice (some ⟨g, 0, none⟩) n cap) (xs.set i.toNat x') := by
 have hg : g < W.heap.size := Kd.S_lt h g rfl
 have h2 : Kd.S d e w1 base (fun k => True ∧ ¬ W.heap.size ≤ k) (.slice (some ⟨g, 0, none⟩) n cap) xs := yB (Kd.S_old h hb) (fun k hk => ⟨trivial, Nat.not_le.2 hk.2⟩)
 obtain ⟨oki, c, hcl, hM0, hcc, hfr, hoki, hH⟩ := Kd.S_elem h2 z i h0 h1
 obtain ⟨q, rfl⟩ := List.length_eq_one_iff.1 (hcl.trans hd)
 have := Kd.S_seg (okg := fun k => W.heap.size ≤ k) (okp := fun k => W.heap.size ≤ k) hH h0 h1 (seg := [u]) (j := 0) (by simp [hd]) (x' := x') (by
  simpa using hM) (fun k hk => .inr hk) (fun k hk => ⟨trivial, by intro he; subst he; omega⟩)
 have h3 := this.1
 rw [hd, Nat.mul_one, Nat.add_zero] at h3
 exact h3
theorem S_cell {α : Type} {d : Kd α} {e g n cap base : Nat} {W : World} {ok : Nat → Prop} {xs : List α} (hd : d.sz = 1) (h : Kd.S d e W base ok (.slice (some ⟨g, 0, none⟩) n cap) xs) (z : α) (i : Int) (h0 : 0 ≤ i) (h1 : i < n) :
  (∃ u, W.cell? ⟨g, i.toNat, none⟩ = some u) ∧ W.frozen? ⟨g, i.toNat, none⟩ = false := by
 obtain ⟨oki, c, hcl, hM0, hcc, hfr, hoki, hH⟩ := Kd.S_elem h z i h0 h1
 rw [hd] at hcc hfr hcl
 obtain ⟨u, rfl⟩ := List.length_eq_one_iff.1 hcl
 exact ⟨⟨u, by have := hcc 0 u rfl; rwa [Nat.mul_one, Nat.add_zero] at this⟩, by have := hfr 0; rwa [Nat.mul_one, Nat.add_zero] at this⟩
theorem fill_set {α : Type} (l : List α) (z : α) (i : Nat) (hi : i < l.length) : (l.take i ++ List.replicate (l.length - i) z).set i l[i] = l.take (i + 1) ++ List.replicate (l.length - (i + 1)) z := by
 rw [show l.length - i = (l.length - (i + 1)) + 1 by omega, List.replicate_succ, List.take_succ_eq_append_getElem hi, List.append_assoc]
 rw [List.set_append_right _ _ (by simp; omega)]
 simp [Nat.min_eq_left (Nat.le_of_lt hi)]
theorem Ev.ip {α : Type} {c : Prop} [Decidable c] {g f : Nat → Option α} {r : α} (hc : c) (h : Ev g r) : Ev (fun n => if c then g n else f n) r := by
 obtain ⟨K, h⟩ := h
 exact ⟨K, fun n hn => by show (if c then g n else f n) = some r; rw [if_pos hc]; exact h n hn⟩
theorem Ev.ng {α : Type} {c : Prop} [Decidable c] {g f : Nat → Option α} {r : α} (hc : ¬ c) (h : Ev f r) : Ev (fun n => if c then g n else f n) r := by
 obtain ⟨K, h⟩ := h
 exact ⟨K, fun n hn => by show (if c then g n else f n) = some r; rw [if_neg hc]; exact h n hn⟩
theorem Ev.c {α : Type} {x : Option α} {r : α} (h : x = some r) : Ev (fun _ => x) r := ⟨0, fun _ _ => h⟩
theorem Ev.eq {α : Type} {g : Nat → Option α} {r r' : α} (h : Ev g r) (e : r = r') : Ev g r' := e ▸ h
theorem rd_nat (l : List Int) (i : Nat) (h : i < l.length) : rd l (i : Int) = l[i] := by simp [rd, h]
theorem wrap_succ (i : Nat) (h : i < 9223372036854775807) : wrap64 ((i : Int) + 1) = ((i + 1 : Nat) : Int) := by unfold wrap64; omega
theorem wrap_in (x : Int) (h1 : -9223372036854775808 ≤ x) (h2 : x ≤ 9223372036854775807) : wrap64 x = x := by unfold wrap64; omega
/-- all numbers lie between two others -/
def allW (lo hi : Int) (l : List Int) : Bool := l.all fun x => decide (lo ≤ x) && decide (x ≤ hi)
end Go.Proofs.YtilimpjcdeeaiaaGreat.G


namespace Go.Proofs.YtilimpjcdeeaiaaGreat.G
open Go.RowKit Go.Proofs.YtilimpjcdeeaiaaGreatW.PrintWords Go.Proofs.YtilimpjcdeeaiaaGreatW.PrintLast Go.Proofs.YtilimpjcdeeaiaaGreatW.PrintMore
attribute [local go_sem] max2_int min2_int max_two min_two max_three min_three max_four min_four   -- for this text's walks alone
def laws_toCompS.l0 : Nat → List (S95) → List (S53) → Int → Option ((List (S53)))
 | 0, _, _, _ => none
 | k + 1, x0, x3, x4 => if x4 < (x0.length : Int) then (if 0 ≤ x4 then ((laws_toComp.f ((rd_T95 x0 x4).f0) ((rd_T95 x0 x4).f1) ((rd_T95 x0 x4).f2) ((rd_T95 x0 x4).f3)).bind fun bt269 => (if x4 < (x3.length : Int) then (laws_toCompS.l0 k x0 (x3.set (x4 : Int).toNat (⟨bt269.1, bt269.2.1, bt269.2.2.1, bt269.2.2.2⟩ : S53)) (wrap64 (x4 + 1))) else (none))) else (none)) else (some x3)
def laws_toCompS.f (k : Nat) (l0 : List (S95)) : Option ((List (S53))) := if 0 ≤ (l0.length : Int) then (if ((l0.length : Int) : Int).toNat ≤ 8796093022208 then (laws_toCompS.l0 k l0 (List.replicate ((l0.length : Int) : Int).toNat z53) 0) else (none)) else (none)
set_option maxHeartbeats 8000000 in
set_option maxRecDepth 100000 in
theorem laws_toCompS.calls (k : Nat) (A0 : Option Addr) (c0 : Nat) (l0 : List (S95)) (r : List (S53)) (w : World) (hr0 : Kd.C k95 w A0 l0.length l0) (hc0 : l0.length ≤ c0) (h : laws_toCompS.f k l0 = some r) :
  Calls Tryz.prog 41 #[.slice A0 l0.length c0] w fun e w' => ∃ v0_ : Value, e = .returned (v0_) ∧ Kd.R k53 53 w' w.heap.size (fun _ => True) v0_ r ∧ Below w.heap.size w w' := by
 have hu95 := Tryz.underlying95
 have hu53 := Tryz.underlying53
 have HR0 := zA hr0
 have HC0 := zA hc0
 clear hr0 hc0
 have HB := zA (Below.refl w.heap.size w)
 have H : (if 0 ≤ (l0.length : Int) then (if ((l0.length : Int) : Int).toNat ≤ 8796093022208 then (laws_toCompS.l0 k l0 (List.replicate ((l0.length : Int) : Int).toNat z53) 0) else (none)) else (none)) = some r := h
 clear h
 by_cases c2 : 0 ≤ (l0.length : Int)
 rotate_left
 ·rw [if_neg c2] at H
  exact absurd H (by simp)
 rw [if_pos c2] at H
 have c2b0 := eq_true c2
 have c2b1 := zT c2
 clear c2
 by_cases c3 : ((l0.length : Int) : Int).toNat ≤ 8796093022208
 rotate_left
 ·rw [if_neg c3] at H
  exact absurd H (by simp)
 rw [if_pos c3] at H
 have c3b0 := eq_true c3
 have c3b1 := zT c3
 clear c3
 obtain ⟨y265, hy265⟩ : ∃ y_ : List (S53), y_ = (List.replicate ((l0.length : Int) : Int).toNat z53) := ⟨_, rfl⟩
 replace H : (laws_toCompS.l0 k l0 y265 0) = some r := by first | (rw [hy265]; with_reducible exact H) | (have H2_ := (zS _ _).symm.trans H; rw [hy265]; with_reducible exact H2_) | (have H2_ := (zS _ _).symm.trans H; with_reducible exact H2_) | with_reducible exact H | (rw [hy265]; exact H) | exact H
 have Ny265 := zA hy265
 clear hy265
 have H' := zA H
 clear H
 go_enter Tryz.func41, Tryz.ntmps41
 go_wp2_with (first | ((with_reducible refine gate_dst (N := 7) rfl ?_); refine Kd.R_make k53 _ 53 rfl (N := 7) rfl 35 _ _ rfl (l0.length : Int) rfl rfl Tryz.underlying35 (.agg #[(.int .i64 0), (.int .i64 0), (.int .i64 0), (.int .i64 0)]) 32 info53 rfl (by decide) (by omega) z53 (ok := fun _ => True) (okp := fun _ => True) (k53_mkM _ _ _ z53 ) (fun _ hk => hk) trivial (zI (by first | (with_reducible assumption) | assumption)) (Nat.le_trans (Nat.mul_le_mul_right _ (zI (by first | (with_reducible assumption) | assumption) : (l0.length : Int).toNat ≤ 8796093022208)) (by omega)) (Below.refl _ _) (Nat.le_refl _) ?_; intro v266 w4 ho5 hb hg_ hnew_; clear hg_ hnew_; (first | rw [← Ny265.out] at ho5 | (simp only [Int.reduceToNat] at ho5; rw [← Ny265.out] at ho5)); have n0_ := zA (Kd.R_lower ho5 (zL (by repeat (first | (with_reducible first | exact HB.out | apply zC | apply zB | apply zF) | exact HB.out)))); have n1_ := nxH hb HB; clear HB; have HO267 := n0_; have HB := n1_; clear n0_ n1_; clear hb ho5))
 go_loopg [4] k (fun kq v4 w' => ∃ (x3_1 : List (S53)) (x4_1 : Int), v4 = .int .i64 x4_1 ∧ Aside0 (laws_toCompS.l0 kq l0 x3_1 x4_1 = some r) ∧ Aside0 (kq ≤ k) ∧ Aside0 (Kd.R k53 53 w' w.heap.size (fun _ => True) v266 x3_1) ∧ Aside0 (Below w.heap.size w w'))
 case atStart => exact ⟨(y265), (0), rfl, H', ⟨Nat.le_refl _⟩, ⟨nxT HO267⟩, ⟨nxD HB⟩⟩
 case round =>
  clear H'
  obtain ⟨x3_1, x4_1, rfl, HA, HK1, HO_3, HB⟩ := hrel
  cases gk with
  | zero => exact absurd HA.out (by simp [laws_toCompS.l0])
  | succ k1 =>
   have H := HA.out
   clear HA
   simp only [laws_toCompS.l0] at H
   by_cases c6 : x4_1 < (l0.length : Int)
   rotate_left
   ·rw [if_neg c6] at H
    have c6b0 := decide_eq_false c6
    clear c6
    obtain rfl := Option.some.inj H
    go_wp2
    go_ret
    exact ⟨_, by first | rfl | (simp [errW_none, errW_some] <;> rfl) | (simp [*, errW_none, errW_some] <;> rfl), by (with_reducible repeat (first | apply zN | apply zM | apply zO)); exact HO_3.out, by repeat (first | (with_reducible first | exact HB.out | apply zC | apply zB | apply zF) | exact HB.out)⟩
   rw [if_pos c6] at H
   have c6b0 := zT c6
   clear c6
   by_cases c7 : 0 ≤ x4_1
   rotate_left
   ·rw [if_neg c7] at H
    exact absurd H (by simp)
   rw [if_pos c7] at H
   have c7b0 := zT c7
   clear c7
   replace H := Option.bind_eq_some_iff.mp H
   obtain ⟨⟨t269, t270, t271, t272⟩, A80, H⟩ := H
   try dsimp only at H
   have A8 := zA A80
   clear A80
   by_cases c9 : x4_1 < (x3_1.length : Int)
   rotate_left
   ·rw [if_neg c9] at H
    exact absurd H (by simp)
   rw [if_pos c9] at H
   have c9b0 := zT c9
   clear c9
   obtain ⟨y273, hy273⟩ : ∃ y_ : List (S53), y_ = (x3_1.set (x4_1 : Int).toNat (⟨t269, t270, t271, t272⟩ : S53)) := ⟨_, rfl⟩
   replace H : (laws_toCompS.l0 k1 l0 y273 (wrap64 (x4_1 + 1))) = some r := by first | (rw [hy273]; with_reducible exact H) | (have H2_ := (zS _ _).symm.trans H; rw [hy273]; with_reducible exact H2_) | (have H2_ := (zS _ _).symm.trans H; with_reducible exact H2_) | with_reducible exact H | (rw [hy273]; exact H) | exact H
   have Ny273 := zA hy273
   clear hy273
   have H' := zA H
   clear H
   have p268 : 0 ≤ (x4_1 : Int) := zI (by first | (with_reducible assumption) | assumption)
   have q268 : x4_1 < (l0.length : Int) := zI (by first | (with_reducible assumption) | assumption)
   obtain ⟨ad268, e268, hx268_0, hx268_1, hx268_2, hx268_3⟩ := at_T95 HR0.out x4_1 p268 q268
   cases e268
   replace hx268_0 := (HB.out.cell (World.block_lt_of_cell? w _ hx268_0)).trans hx268_0
   replace hx268_1 := (HB.out.cell (World.block_lt_of_cell? w _ hx268_1)).trans hx268_1
   replace hx268_2 := (HB.out.cell (World.block_lt_of_cell? w _ hx268_2)).trans hx268_2
   replace hx268_3 := (HB.out.cell (World.block_lt_of_cell? w _ hx268_3)).trans hx268_3
   replace p268 := eq_true p268
   replace q268 := eq_true q268
   go_wp2_with (first | ((with_reducible refine gate_callee (f := 63) rfl ?_); refine goesL_ (some 20) rfl rfl Tryz.func63 (by kernel_rfl) rfl #[.agg #[.int .i64 ((rd_T95 l0 x4_1).f0), .int .i64 ((rd_T95 l0 x4_1).f1), .int .i64 ((rd_T95 l0 x4_1).f2), .int .i64 ((rd_T95 l0 x4_1).f3)]] rfl (by (try simp only [zU, zV, zW]); first | done | rfl | (simp only [zR, zQ]; rfl)) ?_; (with_reducible refine (laws_toComp.calls ((rd_T95 l0 x4_1).f0) ((rd_T95 l0 x4_1).f1) ((rd_T95 l0 x4_1).f2) ((rd_T95 l0 x4_1).f3) t269 t270 t271 t272 _ A8.out).mono ?_); rintro e w11 ⟨rfl, hb⟩; refine ⟨_, rfl, ?_⟩; replace HO_3 := nxR hb HO_3; replace HB := nxH hb HB; (try clear hb); (try clear hb2); (try clear hk); (try clear hi); have p10 : 0 ≤ (x4_1 : Int) := zI (by first | (with_reducible assumption) | assumption); have q10 : (x4_1 : Int) < ((x3_1.length : Int) : Int) := zI (by first | (with_reducible assumption) | assumption); obtain ⟨go10, co10, eo10, gb10, gl10, cl10, HG10⟩ := Kd.R_form HO_3.out (by omega); (first | cases eo10 | (injection eo10 with ea_ en_ ec_; (first | subst ea_ | (injection ea_ with ea_; subst ea_)); subst ec_; clear en_)); have GB10 := zA gb10; have GG10 := zA HG10; clear gb10 gl10 HG10; obtain ⟨ce10, hcl10, hM10, hcc10, hfr10⟩ := Kd.R_elem HO_3.out z53 (x4_1 : Int) p10 q10; obtain rfl := k53_openM hM10; have hx10_0 : w11.cell? ⟨go10, (x4_1 : Int).toNat * 4, none⟩ = some (.int .i64 ((rd_T53 x3_1 x4_1).f0)) := hcc10 0 _ rfl; have hx10_1 : w11.cell? ⟨go10, (x4_1 : Int).toNat * 4 + 1, none⟩ = some (.int .i64 ((rd_T53 x3_1 x4_1).f1)) := hcc10 1 _ rfl; have hx10_2 : w11.cell? ⟨go10, (x4_1 : Int).toNat * 4 + 2, none⟩ = some (.int .i64 ((rd_T53 x3_1 x4_1).f2)) := hcc10 2 _ rfl; have hx10_3 : w11.cell? ⟨go10, (x4_1 : Int).toNat * 4 + 3, none⟩ = some (.int .i64 ((rd_T53 x3_1 x4_1).f3)) := hcc10 3 _ rfl; have hf10_0 : w11.frozen? ⟨go10, (x4_1 : Int).toNat * 4, none⟩ = false := hfr10 0; have hf10_1 : w11.frozen? ⟨go10, (x4_1 : Int).toNat * 4 + 1, none⟩ = false := hfr10 1; have hf10_2 : w11.frozen? ⟨go10, (x4_1 : Int).toNat * 4 + 2, none⟩ = false := hfr10 2; have hf10_3 : w11.frozen? ⟨go10, (x4_1 : Int).toNat * 4 + 3, none⟩ = false := hfr10 3; clear hcl10 hcc10 hfr10; (try clear hM10); replace p10 := eq_true p10; replace q10 := eq_true q10; have HX12 := zA (show Kd.R k53 53 w11 w.heap.size (fun _ => True) (.slice (some ⟨go10, 0, none⟩) x3_1.length co10) x3_1 from (by (with_reducible repeat (first | apply zN | apply zM | apply zO)); exact HO_3.out)); obtain ⟨ce12, hcl12, hM12, hcc12, hfr12⟩ := Kd.R_elem HX12.out z53 (x4_1 : Int) (zI (by first | (with_reducible assumption) | assumption)) (by have h_ : (x4_1 : Int) < ((x3_1.length : Int) : Int) := zI (by first | (with_reducible assumption) | assumption); first | exact h_ | (have e_ := (yE HO_3.out).1; omega) | simpa using h_); obtain rfl := k53_openM hM12; have HP12 := Kd.R_seg HX12.out (x4_1 : Int) (zI (by first | (with_reducible assumption) | assumption)) (by have h_ : (x4_1 : Int) < ((x3_1.length : Int) : Int) := zI (by first | (with_reducible assumption) | assumption); first | exact h_ | (have e_ := (yE HO_3.out).1; omega) | simpa using h_) (seg := [.int .i64 t269, .int .i64 t270, .int .i64 t271, .int .i64 t272]) (j := 0) hcl12 hcc12 (show 4 ≤ 4 from by decide) (x' := (⟨t269, t270, t271, t272⟩ : S53)) (k53_mkM _ _ _ (⟨t269, t270, t271, t272⟩ : S53) ) (fun _ hk => hk); have hx12_0 := hcc12 0 _ rfl; (try simp only [show (k53).sz = 4 from rfl, Nat.mul_one, Nat.add_zero] at hx12_0); have hf12_0 := hfr12 0; (try simp only [show (k53).sz = 4 from rfl, Nat.mul_one, Nat.add_zero] at hf12_0); have hx12_1 := hcc12 1 _ rfl; (try simp only [show (k53).sz = 4 from rfl, Nat.mul_one, Nat.add_zero] at hx12_1); have hf12_1 := hfr12 1; (try simp only [show (k53).sz = 4 from rfl, Nat.mul_one, Nat.add_zero] at hf12_1); have hx12_2 := hcc12 2 _ rfl; (try simp only [show (k53).sz = 4 from rfl, Nat.mul_one, Nat.add_zero] at hx12_2); have hf12_2 := hfr12 2; (try simp only [show (k53).sz = 4 from rfl, Nat.mul_one, Nat.add_zero] at hf12_2); have hx12_3 := hcc12 3 _ rfl; (try simp only [show (k53).sz = 4 from rfl, Nat.mul_one, Nat.add_zero] at hx12_3); have hf12_3 := hfr12 3; (try simp only [show (k53).sz = 4 from rfl, Nat.mul_one, Nat.add_zero] at hf12_3); clear hcl12 hcc12 hfr12; (try clear hM12)) | ((with_reducible refine gate_store (t := 53) (p := 21) rfl ?_); refine store_event (t := 53) (p := 21) (v := ?vo_w13) (w1 := ((((w11.setCell ⟨go10, (x4_1 : Int).toNat * 4, none⟩ (.int .i64 t269)).setCell ⟨go10, (x4_1 : Int).toNat * 4 + 1, none⟩ (.int .i64 t270)).setCell ⟨go10, (x4_1 : Int).toNat * 4 + 2, none⟩ (.int .i64 t271)).setCell ⟨go10, (x4_1 : Int).toNat * 4 + 3, none⟩ (.int .i64 t272))) ?hg ?ho ?hn ?hr ?_; (case ho => rfl); (case hg => rfl); (case hn => rfl); (case hr => first | (go_simp; done) | (go_simp; rfl)); intro w13 hw; have hg : w11.grownBy w13 (some go10) := (by rw [hw]; exact HP12.2); have hp_ : Kd.R k53 53 w13 w.heap.size (fun _ => True) (.slice (some ⟨go10, 0, none⟩) x3_1.length co10) y273 := (by rw [hw, Ny273.out]; exact HP12.1); clear HP12; have n0_ := zA (hp_); have n1_ := zA ((by rw [hw]; exact zE (zE (zE (zE (HB.out) GB10.out) GB10.out) GB10.out) GB10.out : Below w.heap.size w w13)); clear HO_3; clear HB; have HO_3 := n0_; have HB := n1_; clear n0_ n1_; clear hg hw hp_))
   go_roundg k1
   case measure => have := HK1.out; omega
   case rel => exact ⟨(y273), (wrap64 (x4_1 + 1)), rfl, H', ⟨by have := HK1.out; omega⟩, ⟨nxT HO_3⟩, ⟨nxD HB⟩⟩
def toCP (x : S95) : S53 := ⟨x.f0, x.f1, x.f2, x.f3⟩
theorem laws_toCompS.ev (l : List S95) (hm : l.length ≤ 1048576) : Ev (fun k => laws_toCompS.f k l) (l.map toCP) := by
 unfold laws_toCompS.f
 refine Ev.ip (by omega) (Ev.ip (by omega) ?_)
 have key : ∀ d i : Nat, i + d = l.length → Ev (fun k => laws_toCompS.l0 k l ((l.take i).map toCP ++ List.replicate (l.length - i) z53) (i : Int)) (l.map toCP) := by
  intro d
  induction d with
  | zero =>
   intro i hi
   refine Ev.step (fun _ => by rw [laws_toCompS.l0]) (Ev.ng (by omega) (Ev.eq (Ev.now _) ?_))
   rw [List.take_of_length_le (by omega), show l.length - i = 0 by omega, List.replicate_zero, List.append_nil]
  | succ d ih =>
   intro i hi
   have h1 : i < l.length := by omega
   refine Ev.step (fun _ => by rw [laws_toCompS.l0]) (Ev.ip (by omega) (Ev.ip (by omega) ?_))
   rw [show rd_T95 l (i : Int) = l[i] by simp [rd_T95, h1], wrap_succ i (by omega)]
   refine Ev.bind (Ev.c (r := (l[i].f0, l[i].f1, l[i].f2, l[i].f3)) rfl) (Ev.ip (by simp; omega) ?_)
   have hs : ((l.take i).map toCP ++ List.replicate (l.length - i) z53).set ((i : Int)).toNat (⟨l[i].f0, l[i].f1, l[i].f2, l[i].f3⟩ : S53) = (l.take (i + 1)).map toCP ++ List.replicate (l.length - (i + 1)) z53 := by
    rw [Int.toNat_natCast, show l.length - i = (l.length - (i + 1)) + 1 by omega, List.replicate_succ, List.take_succ_eq_append_getElem h1, List.map_append, List.append_assoc]
    rw [List.set_append_right _ _ (by simp; omega)]
    simp [Nat.min_eq_left (Nat.le_of_lt h1), toCP]
   rw [hs]
   exact ih (i + 1) (by omega)
 have := key l.length 0 (by omega)
 simpa using this
end Go.Proofs.YtilimpjcdeeaiaaGreat.G


namespace Go.Proofs.YtilimpjcdeeaiaaGreat.G
open Go.RowKit Go.Proofs.YtilimpjcdeeaiaaGreatW.PrintWords Go.Proofs.YtilimpjcdeeaiaaGreatW.PrintLast Go.Proofs.YtilimpjcdeeaiaaGreatW.PrintMore
attribute [local go_sem] max2_int min2_int max_two min_two max_three min_three max_four min_four   -- for this text's walks alone
def laws_toFrame.f (k : Nat) (a0_0 : Int) (a0_1 : Int) (a0_2 : Int) (a0_3 : Int) (l0_4 : List (S95)) : Option (Int × Int × Int × Int × (List (S53))) := (laws_toCompS.f k l0_4).bind fun t277 => (some (a0_0, a0_1, a0_2, a0_3, t277))
set_option maxHeartbeats 8000000 in
set_option maxRecDepth 100000 in
theorem laws_toFrame.calls (k : Nat) (a0_0 : Int) (a0_1 : Int) (a0_2 : Int) (a0_3 : Int) (A0_4 : Option Addr) (c0_4 : Nat) (l0_4 : List (S95)) (r1 : Int) (r2 : Int) (r3 : Int) (r4 : Int) (r5 : List (S53)) (w : World) (hr0_4 : Kd.C k95 w A0_4 l0_4.length l0_4) (hc0_4 : l0_4.length ≤ c0_4) (h : laws_toFrame.f k a0_0 a0_1 a0_2 a0_3 l0_4 = some (r1, r2, r3, r4, r5)) :
  Calls Tryz.prog 17 #[.agg #[.int .i64 a0_0, .int .i64 a0_1, .int .i64 a0_2, .int .i64 a0_3, .slice A0_4 l0_4.length c0_4]] w fun e w' => ∃ v4_ : Value, e = .returned (.agg #[.int .i64 r1, .int .i64 r2, .int .i64 r3, .int .i64 r4, v4_]) ∧ Kd.R k53 53 w' w.heap.size (fun _ => True) v4_ r5 ∧ Below w.heap.size w w' := by
 have hu24 := Tryz.underlying24
 have hu37 := Tryz.underlying37
 have HR0_4 := zA hr0_4
 have HC0_4 := zA hc0_4
 clear hr0_4 hc0_4
 have HB := zA (Below.refl w.heap.size w)
 have H : ((laws_toCompS.f k l0_4).bind fun t277 => (some (a0_0, a0_1, a0_2, a0_3, t277))) = some (r1, r2, r3, r4, r5) := h
 clear h
 replace H := Option.bind_eq_some_iff.mp H
 obtain ⟨t277, A20, H⟩ := H
 try dsimp only at H
 have A2 := zA A20
 clear A20
 simp only [Option.some.injEq, Prod.mk.injEq] at H
 obtain ⟨rfl, rfl, rfl, rfl, rfl⟩ := H
 go_enter Tryz.func17, Tryz.ntmps17
 go_wp2_with (first | ((with_reducible refine gate_dst (N := 1) rfl ?_); refine nxX (N := 1) (cs := #[.int .i64 a0_0, .int .i64 a0_1, .int .i64 a0_2, .int .i64 a0_3, .slice A0_4 l0_4.length c0_4]) (t := 24) ?_; intro gb274 hg w3 hbox hb; have BK274 := zA (hbox); have GE274 := nxG HB hg; replace HB := nxH hb HB; clear hb hbox hg) | ((with_reducible refine gate_dst (N := 2) rfl ?_); refine nxX (N := 2) (cs := #[.int .i64 0, .int .i64 0, .int .i64 0, .int .i64 0, .slice none 0 0]) (t := 37) ?_; intro gb275 hg w4 hbox hb; have BK275 := zA (hbox); have GE275 := nxG HB hg; have NB274_275 := nxL BK274 hg; have NB275_274 := nxK BK274 hg; replace BK274 := nxB hb BK274; replace HB := nxH hb HB; clear hb hbox hg) | ((with_reducible refine gate_dst (N := 3) rfl ?_); refine nxX (N := 3) (cs := #[.int .i64 0, .int .i64 0, .int .i64 0, .int .i64 0, .slice none 0 0]) (t := 37) ?_; intro gb276 hg w5 hbox hb; have BK276 := zA (hbox); have GE276 := nxG HB hg; have NB274_276 := nxL BK274 hg; have NB276_274 := nxK BK274 hg; have NB275_276 := nxL BK275 hg; have NB276_275 := nxK BK275 hg; replace BK274 := nxB hb BK274; replace BK275 := nxB hb BK275; replace HB := nxH hb HB; clear hb hbox hg; have hnb6 := NB274_275.out; have hnc6 := NB275_274.out; have hnb7 := NB274_276.out; have hnc7 := NB276_274.out; obtain ⟨hcz8_0, hcz8_1, hcz8_2, hcz8_3, hcz8_4⟩ := cz5 BK274; obtain ⟨hfz8_0, hfz8_1, hfz8_2, hfz8_3, hfz8_4⟩ := fz5 BK274; have hnb9 := NB276_275.out; have hnc9 := NB275_276.out; obtain ⟨hcz10_0, hcz10_1, hcz10_2, hcz10_3, hcz10_4⟩ := cz5 BK276; obtain ⟨hfz10_0, hfz10_1, hfz10_2, hfz10_3, hfz10_4⟩ := fz5 BK276) | ((with_reducible refine gate_callee (f := 41) rfl ?_); refine goesL_ (some 18) rfl rfl Tryz.func41 (by kernel_rfl) rfl #[.slice A0_4 l0_4.length c0_4] rfl (by (try simp only [zU, zV, zW]); first | done | rfl | (simp only [zR, zQ]; rfl)) ?_; (with_reducible refine (laws_toCompS.calls k _ _ l0_4 t277 _ ?side1 ?side2 A2.out).mono ?_); (case side1 => exact Kd.C_below HR0_4.out (by repeat (first | (with_reducible first | exact HB.out | apply zC | apply zB | apply zF | refine zE ?_ GE274.out | refine zE ?_ GE275.out | refine zE ?_ GE276.out) | exact HB.out))); (case side2 => exact HC0_4.out); rintro e w11 ⟨v278, rfl, ho0, hb⟩; refine ⟨_, rfl, ?_⟩; have n0_ := zA (Kd.R_lower ho0 (zL (by repeat (first | (with_reducible first | exact HB.out | apply zC | apply zB | apply zF | refine zE ?_ GE274.out | refine zE ?_ GE275.out | refine zE ?_ GE276.out) | exact HB.out)))); have n1_ := zA (blk_below (g := gb274) (o := .cells #[.int .i64 a0_0, .int .i64 a0_1, .int .i64 a0_2, .int .i64 a0_3, .slice A0_4 l0_4.length c0_4] 24 (0, 0)) (by (with_reducible repeat (first | refine zG ?_ _ | refine zH ?_ | refine zD ?_ _)); refine blk_far ?_ NB274_276.out _; (with_reducible repeat (first | refine zG ?_ _ | refine zH ?_ | refine zD ?_ _)); refine blk_far ?_ NB274_276.out _; (with_reducible repeat (first | refine zG ?_ _ | refine zH ?_ | refine zD ?_ _)); refine blk_far ?_ NB274_276.out _; (with_reducible repeat (first | refine zG ?_ _ | refine zH ?_ | refine zD ?_ _)); refine blk_far ?_ NB274_276.out _; (with_reducible repeat (first | refine zG ?_ _ | refine zH ?_ | refine zD ?_ _)); exact BK274.out) hb); have n2_ := zA (blk_below (g := gb275) (o := .cells #[.int .i64 0, .int .i64 0, .int .i64 0, .int .i64 0, .slice none 0 0] 37 (0, 0)) (by (with_reducible repeat (first | refine zG ?_ _ | refine zH ?_ | refine zD ?_ _)); refine blk_far ?_ NB275_276.out _; (with_reducible repeat (first | refine zG ?_ _ | refine zH ?_ | refine zD ?_ _)); refine blk_far ?_ NB275_276.out _; (with_reducible repeat (first | refine zG ?_ _ | refine zH ?_ | refine zD ?_ _)); refine blk_far ?_ NB275_276.out _; (with_reducible repeat (first | refine zG ?_ _ | refine zH ?_ | refine zD ?_ _)); refine blk_far ?_ NB275_276.out _; (with_reducible repeat (first | refine zG ?_ _ | refine zH ?_ | refine zD ?_ _)); exact BK275.out) hb); have n3_ := zA (blk_below (g := gb276) (o := .cells #[.int .i64 a0_0, .int .i64 a0_1, .int .i64 a0_2, .int .i64 a0_3, .slice none 0 0] 37 (0, 0)) (by (with_reducible repeat (first | refine zG ?_ _ | refine zH ?_ | refine zD ?_ _)); refine blk_put (cs := #[.int .i64 a0_0, .int .i64 a0_1, .int .i64 a0_2, .int .i64 0, .slice none 0 0]) ?_ 3 _ rfl; (with_reducible repeat (first | refine zG ?_ _ | refine zH ?_ | refine zD ?_ _)); refine blk_put (cs := #[.int .i64 a0_0, .int .i64 a0_1, .int .i64 0, .int .i64 0, .slice none 0 0]) ?_ 2 _ rfl; (with_reducible repeat (first | refine zG ?_ _ | refine zH ?_ | refine zD ?_ _)); refine blk_put (cs := #[.int .i64 a0_0, .int .i64 0, .int .i64 0, .int .i64 0, .slice none 0 0]) ?_ 1 _ rfl; (with_reducible repeat (first | refine zG ?_ _ | refine zH ?_ | refine zD ?_ _)); refine blk_put (cs := #[.int .i64 0, .int .i64 0, .int .i64 0, .int .i64 0, .slice none 0 0]) ?_ 0 _ rfl; (with_reducible repeat (first | refine zG ?_ _ | refine zH ?_ | refine zD ?_ _)); exact BK276.out) hb); have n4_ := zA (below_step (by repeat (first | (with_reducible first | exact HB.out | apply zC | apply zB | apply zF | refine zE ?_ GE274.out | refine zE ?_ GE275.out | refine zE ?_ GE276.out) | exact HB.out)) hb); clear BK274; clear BK275; clear BK276; clear HB; have HO279 := n0_; have BK274 := n1_; have BK275 := n2_; have BK276 := n3_; have HB := n4_; clear n0_ n1_ n2_ n3_ n4_; (try clear hb); (try clear hb2); (try clear hk); (try clear hi); (try clear ho0); obtain ⟨Ao12, co12, eo12⟩ := Kd.R_slice HO279.out; subst eo12; obtain ⟨hcz13_0, hcz13_1, hcz13_2, hcz13_3, hcz13_4⟩ := cz5 BK276; obtain ⟨hfz13_0, hfz13_1, hfz13_2, hfz13_3, hfz13_4⟩ := fz5 BK276; obtain ⟨hcz14_0, hcz14_1, hcz14_2, hcz14_3, hcz14_4⟩ := cz5 BK275; obtain ⟨hfz14_0, hfz14_1, hfz14_2, hfz14_3, hfz14_4⟩ := fz5 BK275))
 refine bodyPost_ret (results_cell_row rfl _ _ gb275 37 #[.int .i64 a0_0, .int .i64 a0_1, .int .i64 a0_2, .int .i64 a0_3, .slice Ao12 t277.length co12] (0, 0) _ rfl (by (with_reducible repeat (first | refine zG ?_ _ | refine zH ?_ | refine zD ?_ _)); refine blk_put (cs := #[.int .i64 a0_0, .int .i64 a0_1, .int .i64 a0_2, .int .i64 a0_3, .slice none 0 0]) ?_ 4 _ rfl; (with_reducible repeat (first | refine zG ?_ _ | refine zH ?_ | refine zD ?_ _)); refine blk_put (cs := #[.int .i64 a0_0, .int .i64 a0_1, .int .i64 a0_2, .int .i64 0, .slice none 0 0]) ?_ 3 _ rfl; (with_reducible repeat (first | refine zG ?_ _ | refine zH ?_ | refine zD ?_ _)); refine blk_put (cs := #[.int .i64 a0_0, .int .i64 a0_1, .int .i64 0, .int .i64 0, .slice none 0 0]) ?_ 2 _ rfl; (with_reducible repeat (first | refine zG ?_ _ | refine zH ?_ | refine zD ?_ _)); refine blk_put (cs := #[.int .i64 a0_0, .int .i64 0, .int .i64 0, .int .i64 0, .slice none 0 0]) ?_ 1 _ rfl; (with_reducible repeat (first | refine zG ?_ _ | refine zH ?_ | refine zD ?_ _)); refine blk_put (cs := #[.int .i64 0, .int .i64 0, .int .i64 0, .int .i64 0, .slice none 0 0]) ?_ 0 _ rfl; (with_reducible repeat (first | refine zG ?_ _ | refine zH ?_ | refine zD ?_ _)); refine blk_far ?_ NB275_276.out _; (with_reducible repeat (first | refine zG ?_ _ | refine zH ?_ | refine zD ?_ _)); exact BK275.out) Tryz.underlying37 rfl (by kernel_rfl)) rfl ?_
 exact ⟨_, by first | rfl | (simp [errW_none, errW_some] <;> rfl) | (simp [*, errW_none, errW_some] <;> rfl), by (with_reducible repeat (first | apply zN | apply zM | apply zO)); exact zP (Kd.R_far (p := ⟨gb275, 4, none⟩) (Kd.R_far (p := ⟨gb275, 3, none⟩) (Kd.R_far (p := ⟨gb275, 2, none⟩) (Kd.R_far (p := ⟨gb275, 1, none⟩) (Kd.R_far (p := ⟨gb275, 0, none⟩) (Kd.R_far (p := ⟨gb276, 4, none⟩) (zX (zX HO279.out BK276.out (by decide)) BK275.out (by decide)) (fun _ hk => hk.1.2) (.slice Ao12 t277.length co12)) (fun _ hk => hk.2) (.int .i64 a0_0)) (fun _ hk => hk.2) (.int .i64 a0_1)) (fun _ hk => hk.2) (.int .i64 a0_2)) (fun _ hk => hk.2) (.int .i64 a0_3)) (fun _ hk => hk.2) (.slice Ao12 t277.length co12)) (fun _ hk => trivial), by repeat (first | (with_reducible first | exact HB.out | apply zC | apply zB | apply zF | refine zE ?_ GE274.out | refine zE ?_ GE275.out | refine zE ?_ GE276.out) | exact HB.out)⟩
end Go.Proofs.YtilimpjcdeeaiaaGreat.G


namespace Go.Proofs.YtilimpjcdeeaiaaGreat.G
open Go.RowKit Go.Proofs.YtilimpjcdeeaiaaGreatW.PrintWords Go.Proofs.YtilimpjcdeeaiaaGreatW.PrintLast Go.Proofs.YtilimpjcdeeaiaaGreatW.PrintMore
attribute [local go_sem] max2_int min2_int max_two min_two max_three min_three max_four min_four   -- for this text's walks alone
def laws_toIntS.l0 : Nat → List Int → List Int → Int → Option (List Int)
 | 0, _, _, _ => none
 | k + 1, x0, x3, x4 => if x4 < (x0.length : Int) then (if 0 ≤ x4 then (if x4 < (x3.length : Int) then (laws_toIntS.l0 k x0 (x3.set (x4 : Int).toNat (rd x0 x4)) (wrap64 (x4 + 1))) else (none)) else (none)) else (some x3)
def laws_toIntS.f (k : Nat) (l0 : List Int) : Option (List Int) := if 0 ≤ (l0.length : Int) then (if ((l0.length : Int) : Int).toNat ≤ 35184372088832 then (laws_toIntS.l0 k l0 (List.replicate ((l0.length : Int) : Int).toNat 0) 0) else (none)) else (none)
theorem laws_toIntS.mono_l : ∀ k, (∀ y0 y1 y2, LeO (laws_toIntS.l0 k y0 y1 y2) (laws_toIntS.l0 (k + 1) y0 y1 y2))
 | 0 => fun _ _ _ r h => by simp [laws_toIntS.l0] at h
 | k + 1 => by
  have ih0 := laws_toIntS.mono_l k
  ·intro y0 y1 y2
   unfold laws_toIntS.l0
   repeat' first
   | (with_reducible exact ih0 _ _ _)
   | (with_reducible exact LeO.refl _)
   | (with_reducible exact LeO.none _)
   | (with_reducible refine LeO.ite ?_ ?_)
   | (with_reducible refine LeO.bind ?_ (fun _ => ?_))
theorem laws_toIntS.mono : ∀ a0 k, LeO (laws_toIntS.f k a0) (laws_toIntS.f (k + 1) a0) := by
 intro a0 k
 have ih0 := laws_toIntS.mono_l k
 unfold laws_toIntS.f
 repeat' first
   | (with_reducible exact ih0 _ _ _)
   | (with_reducible exact LeO.refl _)
   | (with_reducible exact LeO.none _)
   | (with_reducible refine LeO.ite ?_ ?_)
   | (with_reducible refine LeO.bind ?_ (fun _ => ?_))
set_option maxHeartbeats 8000000 in
set_option maxRecDepth 100000 in
theorem laws_toIntS.calls (k : Nat) (A0 : Option Addr) (c0 : Nat) (l0 : List Int) (r : List Int) (w : World) (hr0 : Kd.C (Kd.int .i64) w A0 l0.length l0) (hc0 : l0.length ≤ c0) (h : laws_toIntS.f k l0 = some r) :
  Calls Tryz.prog 42 #[.slice A0 l0.length c0] w fun e w' => ∃ v0_ : Value, e = .returned (v0_) ∧ Kd.R (Kd.int .i64) 3 w' w.heap.size (fun _ => True) v0_ r ∧ Below w.heap.size w w' := by
 have HR0 := zA hr0
 have HC0 := zA hc0
 clear hr0 hc0
 have HB := zA (Below.refl w.heap.size w)
 have H : (if 0 ≤ (l0.length : Int) then (if ((l0.length : Int) : Int).toNat ≤ 35184372088832 then (laws_toIntS.l0 k l0 (List.replicate ((l0.length : Int) : Int).toNat 0) 0) else (none)) else (none)) = some r := h
 clear h
 by_cases c2 : 0 ≤ (l0.length : Int)
 rotate_left
 ·rw [if_neg c2] at H
  exact absurd H (by simp)
 rw [if_pos c2] at H
 have c2b0 := eq_true c2
 have c2b1 := zT c2
 clear c2
 by_cases c3 : ((l0.length : Int) : Int).toNat ≤ 35184372088832
 rotate_left
 ·rw [if_neg c3] at H
  exact absurd H (by simp)
 rw [if_pos c3] at H
 have c3b0 := eq_true c3
 have c3b1 := zT c3
 clear c3
 obtain ⟨y280, hy280⟩ : ∃ y_ : List Int, y_ = (List.replicate ((l0.length : Int) : Int).toNat 0) := ⟨_, rfl⟩
 replace H : (laws_toIntS.l0 k l0 y280 0) = some r := by first | (rw [hy280]; with_reducible exact H) | (have H2_ := (zS _ _).symm.trans H; rw [hy280]; with_reducible exact H2_) | (have H2_ := (zS _ _).symm.trans H; with_reducible exact H2_) | with_reducible exact H | (rw [hy280]; exact H) | exact H
 have Ny280 := zA hy280
 clear hy280
 have H' := zA H
 clear H
 go_enter Tryz.func42, Tryz.ntmps42
 go_wp2_with (first | ((with_reducible refine gate_dst (N := 7) rfl ?_); refine Kd.R_make (Kd.int .i64) _ 3 rfl (N := 7) rfl 66 _ _ rfl (l0.length : Int) rfl rfl Tryz.underlying66 (.int .i64 0) 8 info3 rfl (by decide) (by omega) 0 (ok := fun _ => True) (okp := fun _ => True) rfl (fun _ hk => hk) trivial (zI (by first | (with_reducible assumption) | assumption)) (Nat.le_trans (Nat.mul_le_mul_right _ (zI (by first | (with_reducible assumption) | assumption) : (l0.length : Int).toNat ≤ 35184372088832)) (by omega)) (Below.refl _ _) (Nat.le_refl _) ?_; intro v281 w4 ho5 hb hg_ hnew_; clear hg_ hnew_; (first | rw [← Ny280.out] at ho5 | (simp only [Int.reduceToNat] at ho5; rw [← Ny280.out] at ho5)); have n0_ := zA (Kd.R_lower ho5 (zL (by repeat (first | (with_reducible first | exact HB.out | apply zC | apply zB | apply zF) | exact HB.out)))); have n1_ := nxH hb HB; clear HB; have HO282 := n0_; have HB := n1_; clear n0_ n1_; clear hb ho5))
 go_loopg [4] k (fun kq v4 w' => ∃ (x3_1 : List Int) (x4_1 : Int), v4 = .int .i64 x4_1 ∧ Aside0 (laws_toIntS.l0 kq l0 x3_1 x4_1 = some r) ∧ Aside0 (kq ≤ k) ∧ Aside0 (Kd.R (Kd.int .i64) 3 w' w.heap.size (fun _ => True) v281 x3_1) ∧ Aside0 (Below w.heap.size w w'))
 case atStart => exact ⟨(y280), (0), rfl, H', ⟨Nat.le_refl _⟩, ⟨nxT HO282⟩, ⟨nxD HB⟩⟩
 case round =>
  clear H'
  obtain ⟨x3_1, x4_1, rfl, HA, HK1, HO_3, HB⟩ := hrel
  cases gk with
  | zero => exact absurd HA.out (by simp [laws_toIntS.l0])
  | succ k1 =>
   have H := HA.out
   clear HA
   simp only [laws_toIntS.l0] at H
   by_cases c6 : x4_1 < (l0.length : Int)
   rotate_left
   ·rw [if_neg c6] at H
    have c6b0 := decide_eq_false c6
    clear c6
    obtain rfl := Option.some.inj H
    go_wp2
    go_ret
    exact ⟨_, by first | rfl | (simp [errW_none, errW_some] <;> rfl) | (simp [*, errW_none, errW_some] <;> rfl), by (with_reducible repeat (first | apply zN | apply zM | apply zO)); exact HO_3.out, by repeat (first | (with_reducible first | exact HB.out | apply zC | apply zB | apply zF) | exact HB.out)⟩
   rw [if_pos c6] at H
   have c6b0 := zT c6
   clear c6
   by_cases c7 : 0 ≤ x4_1
   rotate_left
   ·rw [if_neg c7] at H
    exact absurd H (by simp)
   rw [if_pos c7] at H
   have c7b0 := zT c7
   clear c7
   by_cases c8 : x4_1 < (x3_1.length : Int)
   rotate_left
   ·rw [if_neg c8] at H
    exact absurd H (by simp)
   rw [if_pos c8] at H
   have c8b0 := zT c8
   clear c8
   obtain ⟨y284, hy284⟩ : ∃ y_ : List Int, y_ = (x3_1.set (x4_1 : Int).toNat (rd l0 x4_1)) := ⟨_, rfl⟩
   replace H : (laws_toIntS.l0 k1 l0 y284 (wrap64 (x4_1 + 1))) = some r := by first | (rw [hy284]; with_reducible exact H) | (have H2_ := (zS _ _).symm.trans H; rw [hy284]; with_reducible exact H2_) | (have H2_ := (zS _ _).symm.trans H; with_reducible exact H2_) | with_reducible exact H | (rw [hy284]; exact H) | exact H
   have Ny284 := zA hy284
   clear hy284
   have H' := zA H
   clear H
   have p283 : 0 ≤ (x4_1 : Int) := zI (by first | (with_reducible assumption) | assumption)
   have q283 : x4_1 < (l0.length : Int) := zI (by first | (with_reducible assumption) | assumption)
   obtain ⟨ad283, e283, hx283_0⟩ := Kd.at_int HR0.out x4_1 p283 q283
   cases e283
   replace hx283_0 := (HB.out.cell (World.block_lt_of_cell? w _ hx283_0)).trans hx283_0
   replace p283 := eq_true p283
   replace q283 := eq_true q283
   have p9 : 0 ≤ (x4_1 : Int) := zI (by first | (with_reducible assumption) | assumption)
   have q9 : (x4_1 : Int) < ((x3_1.length : Int) : Int) := zI (by first | (with_reducible assumption) | assumption)
   obtain ⟨go9, co9, eo9, gb9, gl9, cl9, HG9⟩ := Kd.R_form HO_3.out (by omega)
   (first | cases eo9 | (injection eo9 with ea_ en_ ec_; (first | subst ea_ | (injection ea_ with ea_; subst ea_)); subst ec_; clear en_))
   have GB9 := zA gb9
   have GG9 := zA HG9
   clear gb9 gl9 HG9
   obtain ⟨hx9_0, hf9_0⟩ := Kd.R_celln 0 HO_3.out (x4_1 : Int) p9 q9
   replace p9 := eq_true p9
   replace q9 := eq_true q9
   have HP10 := Kd.R_putg HO_3.out (x4_1 : Int) (rd l0 x4_1)
   go_wp2_with (first | ((with_reducible refine gate_store (t := 3) (p := 20) rfl ?_); refine store_event (t := 3) (p := 20) (v := ?vo_w11) (w1 := (wr.setCell ⟨go9, (x4_1 : Int).toNat, none⟩ (.int .i64 (rd l0 x4_1)))) ?hg ?ho ?hn ?hr ?_; (case ho => rfl); (case hg => rfl); (case hn => rfl); (case hr => first | (go_simp; done) | (go_simp; rfl)); intro w11 hw; have hg : wr.grownBy w11 (some go9) := (by rw [hw]; exact HP10.2); have hp_ : Kd.R (Kd.int .i64) 3 w11 w.heap.size (fun _ => True) (.slice (some ⟨go9, 0, none⟩) x3_1.length co9) y284 := (by rw [hw, Ny284.out]; exact HP10.1); clear HP10; have n0_ := zA (hp_); have n1_ := zA ((by rw [hw]; exact zE (HB.out) GB9.out : Below w.heap.size w w11)); clear HO_3; clear HB; have HO_3 := n0_; have HB := n1_; clear n0_ n1_; clear hg hw hp_))
   go_roundg k1
   case measure => have := HK1.out; omega
   case rel => exact ⟨(y284), (wrap64 (x4_1 + 1)), rfl, H', ⟨by have := HK1.out; omega⟩, ⟨nxT HO_3⟩, ⟨nxD HB⟩⟩
theorem laws_toIntS.go (l : List Int) (hm : l.length ≤ 35184372088832) (d : Nat) : ∀ (i k : Nat), l.length - i = d → i ≤ l.length → d < k →
  laws_toIntS.l0 k l (l.take i ++ List.replicate (l.length - i) 0) (i : Int) = some l := by
 induction d with
 | zero =>
  intro i k hd hi' hk
  obtain ⟨k, rfl⟩ : ∃ m, k = m + 1 := ⟨k - 1, by omega⟩
  obtain rfl : i = l.length := by omega
  simp only [laws_toIntS.l0]
  rw [if_neg (by omega)]
  simp
 | succ d ih =>
  intro i k hd hi' hk
  obtain ⟨k, rfl⟩ : ∃ m, k = m + 1 := ⟨k - 1, by omega⟩
  have hlt : i < l.length := by omega
  simp only [laws_toIntS.l0]
  rw [if_pos (by omega), if_pos (by omega), if_pos (by simp; omega)]
  have hrd : rd l (i : Int) = l[i] := by simp [rd, hlt]
  have hw : wrap64 ((i : Int) + 1) = ((i + 1 : Nat) : Int) := by unfold wrap64; omega
  rw [hrd, hw]
  have hs : (l.take i ++ List.replicate (l.length - i) 0).set ((i : Int)).toNat l[i] = l.take (i + 1) ++ List.replicate (l.length - (i + 1)) 0 := by
   rw [Int.toNat_natCast, show l.length - i = (l.length - (i + 1)) + 1 by omega, List.replicate_succ, List.take_succ_eq_append_getElem hlt, List.append_assoc]
   rw [List.set_append_right _ _ (by simp; omega)]
   simp [Nat.min_eq_left (Nat.le_of_lt hlt)]
  rw [hs, ih (i + 1) k (by omega) (by omega) (by omega)]
theorem laws_toIntS.ev (l : List Int) (hm : l.length ≤ 35184372088832) : ∃ k, laws_toIntS.f k l = some l :=
 ⟨l.length + 1, by unfold laws_toIntS.f; rw [if_pos (by omega), if_pos (by omega)]; have := laws_toIntS.go l hm l.length 0 (l.length + 1) (by omega) (by omega) (by omega); simpa using this⟩
theorem laws_toIntS.E (l : List Int) (hm : l.length ≤ 1048576) : Ev (fun k => laws_toIntS.f k l) l := by
 obtain ⟨k, h⟩ := laws_toIntS.ev l (by omega)
 exact Ev.of (fun k => laws_toIntS.mono _ k) h
end Go.Proofs.YtilimpjcdeeaiaaGreat.G


namespace Go.Proofs.YtilimpjcdeeaiaaGreat.G
open Go.RowKit Go.Proofs.YtilimpjcdeeaiaaGreatW.PrintWords Go.Proofs.YtilimpjcdeeaiaaGreatW.PrintLast Go.Proofs.YtilimpjcdeeaiaaGreatW.PrintMore
attribute [local go_sem] max2_int min2_int max_two min_two max_three min_three max_four min_four   -- for this text's walks alone
/-- rows that fit -/
def fitSS (l : List (List Int)) : Bool := decide (l.length ≤ 11728124029610) && l.all fun x => decide (x.length ≤ 35184372088832)
def laws_toIntSS.f (l0 : List (List Int)) : Option (List (List Int)) := if fitSS l0 then some l0 else none
def SSI (w : World) (base : Nat) (v : Value) (xs : List (List Int)) : Prop := Kd.S (Kd.slice 3 (Kd.int .i64)) 66 w base (fun _ => True) v xs
theorem laws_toIntSS.calls (A0 : Option Addr) (c0 : Nat) (l0 : List (List Int)) (r : List (List Int)) (w : World) (hr0 : Kd.C (Kd.slice 3 (Kd.int .i64)) w A0 l0.length l0) (hc0 : l0.length ≤ c0) (h : laws_toIntSS.f l0 = some r) :
  Calls Tryz.prog 18 #[.slice A0 l0.length c0] w fun e w' => ∃ v0_ : Value, e = .returned (v0_) ∧ Kd.S (Kd.slice 3 (Kd.int .i64)) 66 w' w.heap.size (fun _ => True) v0_ r ∧ Below w.heap.size w w' := by
 unfold laws_toIntSS.f at h
 split at h
 ·rename_i hf
  obtain rfl := Option.some.inj h
  clear h
  unfold fitSS at hf
  rw [Bool.and_eq_true, decide_eq_true_eq, List.all_eq_true] at hf
  obtain ⟨hm, hfit0⟩ := hf
  have hfit := zA hfit0
  clear hfit0
  have HR0 := zA hr0
  have HC0 := zA hc0
  clear hr0 hc0
  go_enter Tryz.func18, Tryz.ntmps18
  go_wp2_with (first | ((with_reducible refine gate_dst (N := 7) rfl ?_); refine Kd.S_make (Kd.slice 3 (Kd.int .i64)) _ 66 rfl (N := 7) rfl 25 _ _ rfl (l0.length : Int) rfl rfl Tryz.underlying25 (.slice none 0 0) 24 info66 rfl (by decide) (by omega) [] (ok := fun _ => True) (okp := fun _ => True) ⟨_, rfl, Kd.R_nil _ _ _ _ _⟩ (fun _ hk => hk) trivial (by omega) (by omega) (Below.refl _ _) (Nat.le_refl _) ?_; intro v113 w4 ho5 hb hg_ hnew_; clear hg_ hnew_; have HO := zA ho5; have HB := zA hb; clear ho5 hb))
  go_loopw [4] (fun v4 w' => ∃ i : Nat, v4 = .int .i64 i ∧ i ≤ l0.length ∧ Aside0 (SSI w' w.heap.size v113 (l0.take i ++ List.replicate (l0.length - i) [])) ∧ Aside0 (Below w.heap.size w w')) (fun v4 w' => l0.length - (intOf v4).toNat)
  case atStart => exact ⟨0, rfl, by omega, ⟨by simpa [SSI] using HO.out⟩, HB⟩
  case round =>
   clear HO HB
   obtain ⟨i, rfl, hi, HO, HB⟩ := hrel
   by_cases hlt : i < l0.length
   rotate_left
   ·obtain rfl : i = l0.length := by omega
    go_wp2
    go_ret
    exact ⟨_, rfl, by simpa [SSI] using HO.out, HB.out⟩
   obtain ⟨ad, A1, c1, e1, hx, hl, hi1⟩ := at_L2 HR0.out (i : Int) (by omega) (by omega)
   cases e1
   rw [Int.toNat_natCast] at hx
   replace hx := (HB.out.cell (World.block_lt_of_cell? w _ hx)).trans hx
   have hgl : rd_L2 l0 i = l0[i] := by simp [rd_L2, hlt]
   have HGL := zA hgl
   obtain ⟨k, hk⟩ := laws_toIntS.ev (rd_L2 l0 i) (by rw [hgl]; exact zI (hfit.out _ (List.getElem_mem _)))
   have HK := zA hk
   have HR1 := zA hi1
   have HC1 := zA hl
   have hln : (l0.take i ++ List.replicate (l0.length - i) ([] : List Int)).length = l0.length := by simp; omega
   have HLN := zA hln
   clear hi1 hl hk hgl
   obtain ⟨g, cap, e2, hgb, hgl, _⟩ := Kd.S_form HO.out (by omega)
   rw [hln] at e2
   subst e2
   have HGB := zA hgb
   clear hln hgb hgl
   go_wp2_with (first | (go_at_call 42; (with_reducible refine (laws_toIntS.calls k _ _ (rd_L2 l0 i) _ _ ?side1 ?side2 HK.out).mono ?_); (case side1 => exact Kd.C_below HR1.out HB.out); (case side2 => exact HC1.out); rintro e w11 ⟨v114, rfl, ho0, hb⟩; obtain ⟨A2, c2, e3⟩ := Kd.R_slice ho0; subst e3; have HO2 := zA ho0; have HB2 := zA hb; have HS2 := zA (Kd.S_below HO.out hb); clear ho0 hb; obtain ⟨⟨u, hxc⟩, hxf⟩ := S_cell rfl HS2.out [] (i : Int) (by omega) (by omega); rw [Int.toNat_natCast] at hxc hxf))
   go_roundw
   case rel =>
    refine ⟨i + 1, by go_num, by omega, ⟨?_⟩, ⟨zE (HB.out.trans (HB2.out.mono (HB.out.size))) HGB.out⟩⟩
    have hp := S_put1 (x' := l0[i]) rfl HO.out HB2.out [] (i : Int) (by omega) (by omega) (Kd.M_row (zP (Kd.R_lower (Kd.R_bound (HGL.out ▸ HO2.out)) HB.out.size) (fun k hk => hk.2.1)))
    rw [Int.toNat_natCast, fill_set _ _ _ hlt] at hp
    rw [HGL.out]
    exact hp
   case measure => simp [intOf]; omega
 ·cases h
theorem laws_toIntSS.val (l0 : List (List Int)) (h1 : l0.length ≤ 1048576) (h2 : ∀ x ∈ l0, x.length ≤ 1048576) : laws_toIntSS.f l0 = some l0 := by
 unfold laws_toIntSS.f
 rw [if_pos]
 simp only [fitSS, Bool.and_eq_true, decide_eq_true_eq, List.all_eq_true]
 exact ⟨by omega, fun x hx => by have := h2 x hx; omega⟩
end Go.Proofs.YtilimpjcdeeaiaaGreat.G


namespace Go.Proofs.YtilimpjcdeeaiaaGreat.G
open Go.RowKit Go.Proofs.YtilimpjcdeeaiaaGreatW.PrintWords Go.Proofs.YtilimpjcdeeaiaaGreatW.PrintLast Go.Proofs.YtilimpjcdeeaiaaGreatW.PrintMore
attribute [local go_sem] max2_int min2_int max_two min_two max_three min_three max_four min_four   -- for this text's walks alone
/-- planes that fit -/
def fitSSS (l : List (List (List Int))) : Bool := decide (l.length ≤ 11728124029610) && l.all fitSS
def laws_toIntSSS.f (l0 : List (List (List Int))) : Option (List (List (List Int))) := if fitSSS l0 then some l0 else none
def SSJ (w : World) (base : Nat) (v : Value) (xs : List (List (List Int))) : Prop := Kd.S (Kd.slice 66 (Kd.slice 3 (Kd.int .i64))) 25 w base (fun _ => True) v xs
theorem laws_toIntSSS.calls (A0 : Option Addr) (c0 : Nat) (l0 : List (List (List Int))) (r : List (List (List Int))) (w : World) (hr0 : Kd.C (Kd.slice 66 (Kd.slice 3 (Kd.int .i64))) w A0 l0.length l0) (hc0 : l0.length ≤ c0) (h : laws_toIntSSS.f l0 = some r) :
  Calls Tryz.prog 43 #[.slice A0 l0.length c0] w fun e w' => ∃ v0_ : Value, e = .returned (v0_) ∧ Kd.R (Kd.slice 66 (Kd.slice 3 (Kd.int .i64))) 25 w' w.heap.size (fun _ => True) v0_ r ∧ Below w.heap.size w w' := by
 unfold laws_toIntSSS.f at h
 split at h
 ·rename_i hf
  obtain rfl := Option.some.inj h
  clear h
  unfold fitSSS at hf
  rw [Bool.and_eq_true, decide_eq_true_eq, List.all_eq_true] at hf
  obtain ⟨hm, hfit0⟩ := hf
  have hfit := zA hfit0
  clear hfit0
  have HR0 := zA hr0
  have HC0 := zA hc0
  clear hr0 hc0
  go_enter Tryz.func43, Tryz.ntmps43
  go_wp2_with (first | ((with_reducible refine gate_dst (N := 7) rfl ?_); refine Kd.S_make (Kd.slice 66 (Kd.slice 3 (Kd.int .i64))) _ 25 rfl (N := 7) rfl 26 _ _ rfl (l0.length : Int) rfl rfl Tryz.underlying26 (.slice none 0 0) 24 info25 rfl (by decide) (by omega) [] (ok := fun _ => True) (okp := fun _ => True) ⟨_, rfl, Kd.R_nil _ _ _ _ _⟩ (fun _ hk => hk) trivial (by omega) (by omega) (Below.refl _ _) (Nat.le_refl _) ?_; intro v113 w4 ho5 hb hg_ hnew_; clear hg_ hnew_; have HO := zA ho5; have HB := zA hb; clear ho5 hb))
  go_loopw [4] (fun v4 w' => ∃ i : Nat, v4 = .int .i64 i ∧ i ≤ l0.length ∧ Aside0 (SSJ w' w.heap.size v113 (l0.take i ++ List.replicate (l0.length - i) [])) ∧ Aside0 (Below w.heap.size w w')) (fun v4 w' => l0.length - (intOf v4).toNat)
  case atStart => exact ⟨0, rfl, by omega, ⟨by simpa [SSJ] using HO.out⟩, HB⟩
  case round =>
   clear HO HB
   obtain ⟨i, rfl, hi, HO, HB⟩ := hrel
   by_cases hlt : i < l0.length
   rotate_left
   ·obtain rfl : i = l0.length := by omega
    go_wp2
    go_ret
    exact ⟨_, rfl, Kd.S_R (by simpa [SSJ] using HO.out), HB.out⟩
   obtain ⟨ad, A1, c1, e1, hx, hl, hi1⟩ := at_L3 HR0.out (i : Int) (by omega) (by omega)
   cases e1
   rw [Int.toNat_natCast] at hx
   replace hx := (HB.out.cell (World.block_lt_of_cell? w _ hx)).trans hx
   have hgl : rd_L3 l0 i = l0[i] := by simp [rd_L3, hlt]
   have HGL := zA hgl
   have hk : laws_toIntSS.f (rd_L3 l0 i) = some (rd_L3 l0 i) := by unfold laws_toIntSS.f; rw [if_pos (by rw [hgl]; exact hfit.out _ (List.getElem_mem _))]
   have HK := zA hk
   have HR1 := zA hi1
   have HC1 := zA hl
   have hln : (l0.take i ++ List.replicate (l0.length - i) ([] : List (List Int))).length = l0.length := by simp; omega
   have HLN := zA hln
   clear hi1 hl hk hgl
   obtain ⟨g, cap, e2, hgb, hgl, _⟩ := Kd.S_form HO.out (by omega)
   rw [hln] at e2
   subst e2
   have HGB := zA hgb
   clear hln hgb hgl
   go_wp2_with (first | (go_at_call 18; (with_reducible refine (laws_toIntSS.calls _ _ (rd_L3 l0 i) _ _ ?side1 ?side2 HK.out).mono ?_); (case side1 => exact Kd.C_below HR1.out HB.out); (case side2 => exact HC1.out); rintro e w11 ⟨v114, rfl, ho0_, hb⟩; have ho0 := Kd.S_R ho0_; clear ho0_; obtain ⟨A2, c2, e3⟩ := Kd.R_slice ho0; subst e3; have HO2 := zA ho0; have HB2 := zA hb; have HS2 := zA (Kd.S_below HO.out hb); clear ho0 hb; obtain ⟨⟨u, hxc⟩, hxf⟩ := S_cell rfl HS2.out [] (i : Int) (by omega) (by omega); rw [Int.toNat_natCast] at hxc hxf))
   go_roundw
   case rel =>
    refine ⟨i + 1, by go_num, by omega, ⟨?_⟩, ⟨zE (HB.out.trans (HB2.out.mono (HB.out.size))) HGB.out⟩⟩
    have hp := S_put1 (x' := l0[i]) rfl HO.out HB2.out [] (i : Int) (by omega) (by omega) (Kd.M_row (zP (Kd.R_lower (Kd.R_bound (HGL.out ▸ HO2.out)) HB.out.size) (fun k hk => hk.2.1)))
    rw [Int.toNat_natCast, fill_set _ _ _ hlt] at hp
    rw [HGL.out]
    exact hp
   case measure => simp [intOf]; omega
 ·cases h
theorem laws_toIntSSS.val (l0 : List (List (List Int))) (h1 : l0.length ≤ 1048576) (h2 : ∀ x ∈ l0, x.length ≤ 1048576 ∧ ∀ y ∈ x, y.length ≤ 1048576) : laws_toIntSSS.f l0 = some l0 := by
 unfold laws_toIntSSS.f
 rw [if_pos]
 simp only [fitSSS, fitSS, Bool.and_eq_true, decide_eq_true_eq, List.all_eq_true]
 exact ⟨by omega, fun x hx => ⟨by have := (h2 x hx).1; omega, fun y hy => by have := (h2 x hx).2 y hy; omega⟩⟩
end Go.Proofs.YtilimpjcdeeaiaaGreat.G


namespace Go.Proofs.YtilimpjcdeeaiaaGreat.G
open Go.RowKit Go.Proofs.YtilimpjcdeeaiaaGreatW.PrintWords Go.Proofs.YtilimpjcdeeaiaaGreatW.PrintLast Go.Proofs.YtilimpjcdeeaiaaGreatW.PrintMore
attribute [local go_sem] max2_int min2_int max_two min_two max_three min_three max_four min_four   -- for this text's walks alone
def laws_toCoefs.f (l0_0 : List (List (List Int))) : Option ((List (List (List Int)))) := (laws_toIntSSS.f l0_0).bind fun t288 => (some t288)
set_option maxHeartbeats 8000000 in
set_option maxRecDepth 100000 in
theorem laws_toCoefs.calls (A0_0 : Option Addr) (c0_0 : Nat) (l0_0 : List (List (List Int))) (r : List (List (List Int))) (w : World) (hr0_0 : Kd.C (Kd.slice 66 (Kd.slice 3 (Kd.int .i64))) w A0_0 l0_0.length l0_0) (hc0_0 : l0_0.length ≤ c0_0) (h : laws_toCoefs.f l0_0 = some r) :
  Calls Tryz.prog 19 #[.agg #[.slice A0_0 l0_0.length c0_0]] w fun e w' => ∃ v0_ : Value, e = .returned (.agg #[v0_]) ∧ Kd.R (Kd.slice 66 (Kd.slice 3 (Kd.int .i64))) 25 w' w.heap.size (fun _ => True) v0_ r ∧ Below w.heap.size w w' := by
 have hu28 := Tryz.underlying28
 have hu38 := Tryz.underlying38
 have HR0_0 := zA hr0_0
 have HC0_0 := zA hc0_0
 clear hr0_0 hc0_0
 have HB := zA (Below.refl w.heap.size w)
 have H : ((laws_toIntSSS.f l0_0).bind fun t288 => (some t288)) = some r := h
 clear h
 replace H := Option.bind_eq_some_iff.mp H
 obtain ⟨t288, A20, H⟩ := H
 try dsimp only at H
 have A2 := zA A20
 clear A20
 obtain rfl := Option.some.inj H
 go_enter Tryz.func19, Tryz.ntmps19
 go_wp2_with (first | ((with_reducible refine gate_dst (N := 1) rfl ?_); refine nxX (N := 1) (cs := #[.slice A0_0 l0_0.length c0_0]) (t := 28) ?_; intro gb285 hg w3 hbox hb; have BK285 := zA (hbox); have GE285 := nxG HB hg; replace HB := nxH hb HB; clear hb hbox hg) | ((with_reducible refine gate_dst (N := 2) rfl ?_); refine nxX (N := 2) (cs := #[.slice none 0 0]) (t := 38) ?_; intro gb286 hg w4 hbox hb; have BK286 := zA (hbox); have GE286 := nxG HB hg; have NB285_286 := nxL BK285 hg; have NB286_285 := nxK BK285 hg; replace BK285 := nxB hb BK285; replace HB := nxH hb HB; clear hb hbox hg) | ((with_reducible refine gate_dst (N := 3) rfl ?_); refine nxX (N := 3) (cs := #[.slice none 0 0]) (t := 38) ?_; intro gb287 hg w5 hbox hb; have BK287 := zA (hbox); have GE287 := nxG HB hg; have NB285_287 := nxL BK285 hg; have NB287_285 := nxK BK285 hg; have NB286_287 := nxL BK286 hg; have NB287_286 := nxK BK286 hg; replace BK285 := nxB hb BK285; replace BK286 := nxB hb BK286; replace HB := nxH hb HB; clear hb hbox hg; have hnb6 := NB285_286.out; have hnc6 := NB286_285.out; have hnb7 := NB285_287.out; have hnc7 := NB287_285.out; have hcz8_0 : w5.cell? ⟨gb285, 0, none⟩ = some (.slice A0_0 l0_0.length c0_0) := (zK BK285.out 0).trans rfl; have hfz8_0 := zJ BK285.out 0) | ((with_reducible refine gate_callee (f := 43) rfl ?_); refine goesL_ (some 6) rfl rfl Tryz.func43 (by kernel_rfl) rfl #[.slice A0_0 l0_0.length c0_0] rfl (by (try simp only [zU, zV, zW]); first | done | rfl | (simp only [zR, zQ]; rfl)) ?_; (with_reducible refine (laws_toIntSSS.calls _ _ l0_0 t288 _ ?side1 ?side2 A2.out).mono ?_); (case side1 => exact nxC HR0_0 HB); (case side2 => exact HC0_0.out); rintro e w9 ⟨v289, rfl, ho0, hb⟩; refine ⟨_, rfl, ?_⟩; have n0_ := zA (Kd.R_lower ho0 (zL (by repeat (first | (with_reducible first | exact HB.out | apply zC | apply zB | apply zF | refine zE ?_ GE285.out | refine zE ?_ GE286.out | refine zE ?_ GE287.out) | exact HB.out)))); have n1_ := nxB hb BK285; have n2_ := nxB hb BK286; have n3_ := nxB hb BK287; have n4_ := nxH hb HB; clear BK285; clear BK286; clear BK287; clear HB; have HO290 := n0_; have BK285 := n1_; have BK286 := n2_; have BK287 := n3_; have HB := n4_; clear n0_ n1_ n2_ n3_ n4_; (try clear hb); (try clear hb2); (try clear hk); (try clear hi); (try clear ho0); obtain ⟨Ao10, co10, eo10⟩ := Kd.R_slice HO290.out; subst eo10; have hnb11 := NB287_286.out; have hnc11 := NB286_287.out; have hcz12_0 : w9.cell? ⟨gb287, 0, none⟩ = some (.slice none 0 0) := (zK BK287.out 0).trans rfl; have hfz12_0 := zJ BK287.out 0; have hcz13_0 : w9.cell? ⟨gb286, 0, none⟩ = some (.slice none 0 0) := (zK BK286.out 0).trans rfl; have hfz13_0 := zJ BK286.out 0))
 refine bodyPost_ret (results_cell_row rfl _ _ gb286 38 #[.slice Ao10 t288.length co10] (0, 0) _ rfl (by (with_reducible repeat (first | refine zG ?_ _ | refine zH ?_ | refine zD ?_ _)); refine blk_put (cs := #[.slice none 0 0]) ?_ 0 _ rfl; (with_reducible repeat (first | refine zG ?_ _ | refine zH ?_ | refine zD ?_ _)); refine blk_far ?_ NB286_287.out _; (with_reducible repeat (first | refine zG ?_ _ | refine zH ?_ | refine zD ?_ _)); exact BK286.out) Tryz.underlying38 rfl (by kernel_rfl)) rfl ?_
 exact ⟨_, by first | rfl | (simp [errW_none, errW_some] <;> rfl) | (simp [*, errW_none, errW_some] <;> rfl), by (with_reducible repeat (first | apply zN | apply zM | apply zO)); exact zP (Kd.R_far (p := ⟨gb286, 0, none⟩) (Kd.R_far (p := ⟨gb287, 0, none⟩) (zX (zX HO290.out BK287.out (by decide)) BK286.out (by decide)) (fun _ hk => hk.1.2) (.slice Ao10 t288.length co10)) (fun _ hk => hk.2) (.slice Ao10 t288.length co10)) (fun _ hk => trivial), by repeat (first | (with_reducible first | exact HB.out | apply zC | apply zB | apply zF | refine zE ?_ GE285.out | refine zE ?_ GE286.out | refine zE ?_ GE287.out) | exact HB.out)⟩
end Go.Proofs.YtilimpjcdeeaiaaGreat.G


namespace Go.Proofs.YtilimpjcdeeaiaaGreat.G
open Go.RowKit Go.Proofs.YtilimpjcdeeaiaaGreatW.PrintWords Go.Proofs.YtilimpjcdeeaiaaGreatW.PrintLast Go.Proofs.YtilimpjcdeeaiaaGreatW.PrintMore
attribute [local go_sem] max2_int min2_int max_two min_two max_three min_three max_four min_four   -- for this text's walks alone
def laws_toScan.f (k : Nat) (l0_0 : List Int) (a0_1 : Int) (a0_2 : Int) (a0_3 : Int) (a0_4 : Int) : Option (List Int × Int × Int × Int × Int) := (laws_toIntS.f k l0_0).bind fun t294 => (some (t294, a0_1, a0_2, a0_3, a0_4))
set_option maxHeartbeats 8000000 in
set_option maxRecDepth 100000 in
theorem laws_toScan.calls (k : Nat) (A0_0 : Option Addr) (c0_0 : Nat) (l0_0 : List Int) (a0_1 : Int) (a0_2 : Int) (a0_3 : Int) (a0_4 : Int) (r1 : List Int) (r2 : Int) (r3 : Int) (r4 : Int) (r5 : Int) (w : World) (hr0_0 : Kd.C (Kd.int .i64) w A0_0 l0_0.length l0_0) (hc0_0 : l0_0.length ≤ c0_0) (h : laws_toScan.f k l0_0 a0_1 a0_2 a0_3 a0_4 = some (r1, r2, r3, r4, r5)) :
  Calls Tryz.prog 44 #[.agg #[.slice A0_0 l0_0.length c0_0, .int .i64 a0_1, .int .i64 a0_2, .int .i64 a0_3, .int .i64 a0_4]] w fun e w' => ∃ v0_ : Value, e = .returned (.agg #[v0_, .int .i64 r2, .int .i64 r3, .int .i64 r4, .int .i64 r5]) ∧ Kd.R (Kd.int .i64) 3 w' w.heap.size (fun _ => True) v0_ r1 ∧ Below w.heap.size w w' := by
 have hu70 := Tryz.underlying70
 have hu79 := Tryz.underlying79
 have HR0_0 := zA hr0_0
 have HC0_0 := zA hc0_0
 clear hr0_0 hc0_0
 have HB := zA (Below.refl w.heap.size w)
 have H : ((laws_toIntS.f k l0_0).bind fun t294 => (some (t294, a0_1, a0_2, a0_3, a0_4))) = some (r1, r2, r3, r4, r5) := h
 clear h
 replace H := Option.bind_eq_some_iff.mp H
 obtain ⟨t294, A20, H⟩ := H
 try dsimp only at H
 have A2 := zA A20
 clear A20
 simp only [Option.some.injEq, Prod.mk.injEq] at H
 obtain ⟨rfl, rfl, rfl, rfl, rfl⟩ := H
 go_enter Tryz.func44, Tryz.ntmps44
 go_wp2_with (first | ((with_reducible refine gate_dst (N := 1) rfl ?_); refine nxX (N := 1) (cs := #[.slice A0_0 l0_0.length c0_0, .int .i64 a0_1, .int .i64 a0_2, .int .i64 a0_3, .int .i64 a0_4]) (t := 70) ?_; intro gb291 hg w3 hbox hb; have BK291 := zA (hbox); have GE291 := nxG HB hg; replace HB := nxH hb HB; clear hb hbox hg) | ((with_reducible refine gate_dst (N := 2) rfl ?_); refine nxX (N := 2) (cs := #[.slice none 0 0, .int .i64 0, .int .i64 0, .int .i64 0, .int .i64 0]) (t := 79) ?_; intro gb292 hg w4 hbox hb; have BK292 := zA (hbox); have GE292 := nxG HB hg; have NB291_292 := nxL BK291 hg; have NB292_291 := nxK BK291 hg; replace BK291 := nxB hb BK291; replace HB := nxH hb HB; clear hb hbox hg) | ((with_reducible refine gate_dst (N := 3) rfl ?_); refine nxX (N := 3) (cs := #[.slice none 0 0, .int .i64 0, .int .i64 0, .int .i64 0, .int .i64 0]) (t := 79) ?_; intro gb293 hg w5 hbox hb; have BK293 := zA (hbox); have GE293 := nxG HB hg; have NB291_293 := nxL BK291 hg; have NB293_291 := nxK BK291 hg; have NB292_293 := nxL BK292 hg; have NB293_292 := nxK BK292 hg; replace BK291 := nxB hb BK291; replace BK292 := nxB hb BK292; replace HB := nxH hb HB; clear hb hbox hg; have hnb6 := NB291_292.out; have hnc6 := NB292_291.out; have hnb7 := NB291_293.out; have hnc7 := NB293_291.out; obtain ⟨hcz8_0, hcz8_1, hcz8_2, hcz8_3, hcz8_4⟩ := cz5 BK291; obtain ⟨hfz8_0, hfz8_1, hfz8_2, hfz8_3, hfz8_4⟩ := fz5 BK291) | ((with_reducible refine gate_callee (f := 42) rfl ?_); refine goesL_ (some 6) rfl rfl Tryz.func42 (by kernel_rfl) rfl #[.slice A0_0 l0_0.length c0_0] rfl (by (try simp only [zU, zV, zW]); first | done | rfl | (simp only [zR, zQ]; rfl)) ?_; (with_reducible refine (laws_toIntS.calls k _ _ l0_0 t294 _ ?side1 ?side2 A2.out).mono ?_); (case side1 => exact nxC HR0_0 HB); (case side2 => exact HC0_0.out); rintro e w9 ⟨v295, rfl, ho0, hb⟩; refine ⟨_, rfl, ?_⟩; have n0_ := zA (Kd.R_lower ho0 (zL (by repeat (first | (with_reducible first | exact HB.out | apply zC | apply zB | apply zF | refine zE ?_ GE291.out | refine zE ?_ GE292.out | refine zE ?_ GE293.out) | exact HB.out)))); have n1_ := nxB hb BK291; have n2_ := nxB hb BK292; have n3_ := nxB hb BK293; have n4_ := nxH hb HB; clear BK291; clear BK292; clear BK293; clear HB; have HO296 := n0_; have BK291 := n1_; have BK292 := n2_; have BK293 := n3_; have HB := n4_; clear n0_ n1_ n2_ n3_ n4_; (try clear hb); (try clear hb2); (try clear hk); (try clear hi); (try clear ho0); obtain ⟨Ao10, co10, eo10⟩ := Kd.R_slice HO296.out; subst eo10; have hnb11 := NB293_292.out; have hnc11 := NB292_293.out; obtain ⟨hcz12_0, hcz12_1, hcz12_2, hcz12_3, hcz12_4⟩ := cz5 BK293; obtain ⟨hfz12_0, hfz12_1, hfz12_2, hfz12_3, hfz12_4⟩ := fz5 BK293; obtain ⟨hcz13_0, hcz13_1, hcz13_2, hcz13_3, hcz13_4⟩ := cz5 BK291; obtain ⟨hfz13_0, hfz13_1, hfz13_2, hfz13_3, hfz13_4⟩ := fz5 BK291; obtain ⟨hcz14_0, hcz14_1, hcz14_2, hcz14_3, hcz14_4⟩ := cz5 BK292; obtain ⟨hfz14_0, hfz14_1, hfz14_2, hfz14_3, hfz14_4⟩ := fz5 BK292))
 refine bodyPost_ret (results_cell_row rfl _ _ gb292 79 #[.slice Ao10 t294.length co10, .int .i64 a0_1, .int .i64 a0_2, .int .i64 a0_3, .int .i64 a0_4] (0, 0) _ rfl (by (with_reducible repeat (first | refine zG ?_ _ | refine zH ?_ | refine zD ?_ _)); refine blk_put (cs := #[.slice Ao10 t294.length co10, .int .i64 a0_1, .int .i64 a0_2, .int .i64 a0_3, .int .i64 0]) ?_ 4 _ rfl; (with_reducible repeat (first | refine zG ?_ _ | refine zH ?_ | refine zD ?_ _)); refine blk_put (cs := #[.slice Ao10 t294.length co10, .int .i64 a0_1, .int .i64 a0_2, .int .i64 0, .int .i64 0]) ?_ 3 _ rfl; (with_reducible repeat (first | refine zG ?_ _ | refine zH ?_ | refine zD ?_ _)); refine blk_put (cs := #[.slice Ao10 t294.length co10, .int .i64 a0_1, .int .i64 0, .int .i64 0, .int .i64 0]) ?_ 2 _ rfl; (with_reducible repeat (first | refine zG ?_ _ | refine zH ?_ | refine zD ?_ _)); refine blk_put (cs := #[.slice Ao10 t294.length co10, .int .i64 0, .int .i64 0, .int .i64 0, .int .i64 0]) ?_ 1 _ rfl; (with_reducible repeat (first | refine zG ?_ _ | refine zH ?_ | refine zD ?_ _)); refine blk_put (cs := #[.slice none 0 0, .int .i64 0, .int .i64 0, .int .i64 0, .int .i64 0]) ?_ 0 _ rfl; (with_reducible repeat (first | refine zG ?_ _ | refine zH ?_ | refine zD ?_ _)); refine blk_far ?_ NB292_293.out _; (with_reducible repeat (first | refine zG ?_ _ | refine zH ?_ | refine zD ?_ _)); refine blk_far ?_ NB292_293.out _; (with_reducible repeat (first | refine zG ?_ _ | refine zH ?_ | refine zD ?_ _)); refine blk_far ?_ NB292_293.out _; (with_reducible repeat (first | refine zG ?_ _ | refine zH ?_ | refine zD ?_ _)); refine blk_far ?_ NB292_293.out _; (with_reducible repeat (first | refine zG ?_ _ | refine zH ?_ | refine zD ?_ _)); refine blk_far ?_ NB292_293.out _; (with_reducible repeat (first | refine zG ?_ _ | refine zH ?_ | refine zD ?_ _)); exact BK292.out) Tryz.underlying79 rfl (by kernel_rfl)) rfl ?_
 exact ⟨_, by first | rfl | (simp [errW_none, errW_some] <;> rfl) | (simp [*, errW_none, errW_some] <;> rfl), by (with_reducible repeat (first | apply zN | apply zM | apply zO)); exact zP (Kd.R_far (p := ⟨gb292, 4, none⟩) (Kd.R_far (p := ⟨gb292, 3, none⟩) (Kd.R_far (p := ⟨gb292, 2, none⟩) (Kd.R_far (p := ⟨gb292, 1, none⟩) (Kd.R_far (p := ⟨gb292, 0, none⟩) (Kd.R_far (p := ⟨gb293, 4, none⟩) (Kd.R_far (p := ⟨gb293, 3, none⟩) (Kd.R_far (p := ⟨gb293, 2, none⟩) (Kd.R_far (p := ⟨gb293, 1, none⟩) (Kd.R_far (p := ⟨gb293, 0, none⟩) (zX (zX HO296.out BK293.out (by decide)) BK292.out (by decide)) (fun _ hk => hk.1.2) (.slice Ao10 t294.length co10)) (fun _ hk => hk.1.2) (.int .i64 a0_1)) (fun _ hk => hk.1.2) (.int .i64 a0_2)) (fun _ hk => hk.1.2) (.int .i64 a0_3)) (fun _ hk => hk.1.2) (.int .i64 a0_4)) (fun _ hk => hk.2) (.slice Ao10 t294.length co10)) (fun _ hk => hk.2) (.int .i64 a0_1)) (fun _ hk => hk.2) (.int .i64 a0_2)) (fun _ hk => hk.2) (.int .i64 a0_3)) (fun _ hk => hk.2) (.int .i64 a0_4)) (fun _ hk => trivial), by repeat (first | (with_reducible first | exact HB.out | apply zC | apply zB | apply zF | refine zE ?_ GE291.out | refine zE ?_ GE292.out | refine zE ?_ GE293.out) | exact HB.out)⟩
end Go.Proofs.YtilimpjcdeeaiaaGreat.G


namespace Go.Proofs.YtilimpjcdeeaiaaGreat.G
open Go.RowKit Go.Proofs.YtilimpjcdeeaiaaGreatW.PrintWords Go.Proofs.YtilimpjcdeeaiaaGreatW.PrintLast Go.Proofs.YtilimpjcdeeaiaaGreatW.PrintMore
attribute [local go_sem] max2_int min2_int max_two min_two max_three min_three max_four min_four   -- for this text's walks alone
/-- scans that fit -/
def toSN (x : S70) : S79 := ⟨x.f0, x.f1, x.f2, x.f3, x.f4⟩
def fitScans (l : List S70) : Bool := decide (l.length ≤ 1048576) && l.all fun x => decide (x.f0.length ≤ 1048576)
def laws_toScanS.f (l0 : List S70) : Option (List S79) := if fitScans l0 then some (l0.map toSN) else none
set_option maxRecDepth 100000 in
set_option maxHeartbeats 4000000 in
theorem laws_toScanS.calls (A0 : Option Addr) (c0 : Nat) (l0 : List S70) (r : List S79) (w : World) (hr0 : Kd.C k70 w A0 l0.length l0) (hc0 : l0.length ≤ c0) (h : laws_toScanS.f l0 = some r) :
  Calls Tryz.prog 20 #[.slice A0 l0.length c0] w fun e w' => ∃ v0_ : Value, e = .returned (v0_) ∧ Kd.S k79 79 w' w.heap.size (fun _ => True) v0_ r ∧ Below w.heap.size w w' := by
 unfold laws_toScanS.f at h
 split at h
 ·rename_i hf
  obtain rfl := Option.some.inj h
  clear h
  unfold fitScans at hf
  rw [Bool.and_eq_true, decide_eq_true_eq, List.all_eq_true] at hf
  obtain ⟨hm, hfit0⟩ := hf
  have hfit := zA hfit0
  clear hfit0
  have HR0 := zA hr0
  have HC0 := zA hc0
  clear hr0 hc0
  go_enter Tryz.func20, Tryz.ntmps20
  go_wp2_with (first | ((with_reducible refine gate_dst (N := 7) rfl ?_); refine Kd.S_make k79 _ 79 rfl (N := 7) rfl 39 _ _ rfl (l0.length : Int) rfl rfl Tryz.underlying39 (.agg #[(.slice none 0 0), (.int .i64 0), (.int .i64 0), (.int .i64 0), (.int .i64 0)]) 56 info79 rfl (by decide) (by omega) z79 (ok := fun _ => True) (okp := fun _ => True) (k79_mkM _ _ _ z79 (Kd.R_nil _ _ _ _ _)) (fun _ hk => hk) trivial (by omega) (by omega) (Below.refl _ _) (Nat.le_refl _) ?_; intro v113 w4 ho5 hb hg_ hnew_; clear hg_ hnew_; have HO := zA ho5; have HB := zA hb; clear ho5 hb))
  go_loopw [4] (fun v4 w' => ∃ i : Nat, v4 = .int .i64 i ∧ i ≤ l0.length ∧ Aside0 (Kd.S k79 79 w' w.heap.size (fun _ => True) v113 ((l0.map toSN).take i ++ List.replicate (l0.length - i) z79)) ∧ Aside0 (Below w.heap.size w w')) (fun v4 w' => l0.length - (intOf v4).toNat)
  case atStart => exact ⟨0, rfl, by omega, ⟨by simpa using HO.out⟩, HB⟩
  case round =>
   clear HO HB
   obtain ⟨i, rfl, hi, HO, HB⟩ := hrel
   by_cases hlt : i < l0.length
   rotate_left
   ·obtain rfl : i = l0.length := by omega
    go_wp2
    go_ret
    exact ⟨_, rfl, by have h_ := HO.out; rw [Nat.sub_self, List.take_of_length_le (by simp)] at h_; simpa using h_, HB.out⟩
   obtain ⟨ad, A1, c1, e1, hx0, hx1, hx2, hx3, hx4, hl, hi1⟩ := at_T70 HR0.out (i : Int) (by omega) (by omega)
   cases e1
   rw [Int.toNat_natCast] at hx0 hx1 hx2 hx3 hx4
   obtain ⟨x, hxe⟩ : ∃ x, x = rd_T70 l0 i := ⟨_, rfl⟩
   rw [← hxe] at hx0 hx1 hx2 hx3 hx4 hl hi1
   have hxl : x = l0[i] := by rw [hxe]; simp [rd_T70, hlt]
   have hx9 : x.f0.length ≤ 1048576 := by rw [hxl]; exact zI (hfit.out _ (List.getElem_mem _))
   replace hx0 := (HB.out.cell (World.block_lt_of_cell? w _ hx0)).trans hx0
   replace hx1 := (HB.out.cell (World.block_lt_of_cell? w _ hx1)).trans hx1
   replace hx2 := (HB.out.cell (World.block_lt_of_cell? w _ hx2)).trans hx2
   replace hx3 := (HB.out.cell (World.block_lt_of_cell? w _ hx3)).trans hx3
   replace hx4 := (HB.out.cell (World.block_lt_of_cell? w _ hx4)).trans hx4
   have HXL := zA hxl
   obtain ⟨k, hk⟩ := (show Ev (fun k => laws_toScan.f k x.f0 x.f1 x.f2 x.f3 x.f4) (x.f0, x.f1, x.f2, x.f3, x.f4) by
    unfold laws_toScan.f
    exact Ev.bind (laws_toIntS.E x.f0 hx9) (Ev.now _)).rounds
   have HK := zA hk
   have HR1 := zA hi1
   have HC1 := zA hl
   have hln : ((l0.map toSN).take i ++ List.replicate (l0.length - i) z79).length = l0.length := by simp; omega
   clear hi1 hl hk hxe hxl
   obtain ⟨g, cap, e2, hgb, hgl, _⟩ := Kd.S_form HO.out (by omega)
   rw [hln] at e2
   subst e2
   have HGB := zA hgb
   have HLN := zA hln
   clear hln hgb hgl
   go_wp2_with (first | (go_at_call 44; go_loud ((with_reducible refine (laws_toScan.calls k _ _ x.f0 x.f1 x.f2 x.f3 x.f4 _ _ _ _ _ _ ?side1 ?side2 HK.out).mono ?_); (case side1 => exact Kd.C_below HR1.out HB.out); (case side2 => exact HC1.out)); rintro e w11 ⟨v114, rfl, ho0, hb⟩; obtain ⟨A2, c2, e3⟩ := Kd.R_slice ho0; subst e3; have HO2 := zA ho0; have HB2 := zA hb; have HS2 := zA (yB (ok' := fun k => True ∧ ¬ wr.heap.size ≤ k) (Kd.S_old HO.out hb) (fun k hk => ⟨trivial, Nat.not_le.2 hk.2⟩)); obtain ⟨oki, cc, hcl, hM, hcc, hfr, hokk, hH⟩ := Kd.S_elem HS2.out z79 (i : Int) (by omega) (by omega); obtain ⟨v0, hcE, hR0⟩ := k79_openM hM; subst hcE; have y0 := hcc 0 _ rfl; have y1 := hcc 1 _ rfl; have y2 := hcc 2 _ rfl; have y3 := hcc 3 _ rfl; have y4 := hcc 4 _ rfl; have f0 := hfr 0; have f1 := hfr 1; have f2 := hfr 2; have f3 := hfr 3; have f4 := hfr 4; rw [Int.toNat_natCast, show k79.sz = 5 from rfl] at y0 y1 y2 y3 y4 f0 f1 f2 f3 f4; rw [Nat.add_zero] at y0 f0; have HH := zA hH; clear ho0 hb hcl hM hcc hfr hokk hH hR0))
   clear y0 y1 y2 y3 y4 f0 f1 f2 f3 f4 hx0 hx1 hx2 hx3 hx4
   have hp := (Kd.S_seg (okg := fun k => wr.heap.size ≤ k) (okp := fun k => wr.heap.size ≤ k) HH.out (by omega) (by omega) (seg := [.slice A2 x.f0.length c2, .int .i64 x.f1, .int .i64 x.f2, .int .i64 x.f3, .int .i64 x.f4]) (j := 0) (Nat.le_refl 5) (x' := toSN x) (
    k79_mkM w11 w.heap.size (fun k => wr.heap.size ≤ k) (toSN x) (zP (Kd.R_lower (Kd.R_bound HO2.out) HB.out.size) (fun k hk => hk.2.1))) (fun k hk => .inr hk) (fun k hk => ⟨trivial, by intro he; have := HGB.out; have := hk; have h9 := Kd.S_lt HO.out k (by rw [he]; rfl); omega⟩)).1
   have HP := zA hp
   clear hp
   go_roundw
   case rel =>
    refine ⟨i + 1, by go_num, by omega, ⟨?_⟩, ⟨?_⟩⟩
    ·have hp := HP.out
     rw [Int.toNat_natCast] at hp
     have hm2 : i < (l0.map toSN).length := by simp; exact hlt
     have h8 := fill_set (l0.map toSN) z79 i hm2
     rw [List.length_map] at h8
     rw [show toSN x = (l0.map toSN)[i] by rw [List.getElem_map, HXL.out], h8] at hp
     exact hp
    ·exact zE (zE (zE (zE (zE (HB.out.trans (HB2.out.mono (HB.out.size))) HGB.out) HGB.out) HGB.out) HGB.out) HGB.out
   case measure => simp [intOf]; omega
 ·cases h
theorem laws_toScanS.val (l0 : List S70) (h1 : l0.length ≤ 1048576) (h2 : ∀ x ∈ l0, x.f0.length ≤ 1048576) : laws_toScanS.f l0 = some (l0.map toSN) := by
 unfold laws_toScanS.f
 rw [if_pos]
 simp only [fitScans, Bool.and_eq_true, decide_eq_true_eq, List.all_eq_true]
 exact ⟨h1, h2⟩
end Go.Proofs.YtilimpjcdeeaiaaGreat.G


namespace Go.Proofs.YtilimpjcdeeaiaaGreat.G
open Go.RowKit Go.Proofs.YtilimpjcdeeaiaaGreatW.PrintWords Go.Proofs.YtilimpjcdeeaiaaGreatW.PrintLast Go.Proofs.YtilimpjcdeeaiaaGreatW.PrintMore
attribute [local go_sem] max2_int min2_int max_two min_two max_three min_three max_four min_four   -- for this text's walks alone
def laws_toByteS.l0 : Nat → List Int → List Int → Int → Option (List Int)
 | 0, _, _, _ => none
 | k + 1, x0, x3, x4 => if x4 < (x0.length : Int) then (if 0 ≤ x4 then (if x4 < (x3.length : Int) then (laws_toByteS.l0 k x0 (x3.set (x4 : Int).toNat (rd x0 x4)) (wrap64 (x4 + 1))) else (none)) else (none)) else (some x3)
def laws_toByteS.f (k : Nat) (l0 : List Int) : Option (List Int) := if 0 ≤ (l0.length : Int) then (if ((l0.length : Int) : Int).toNat ≤ 281474976710656 then (laws_toByteS.l0 k l0 (List.replicate ((l0.length : Int) : Int).toNat 0) 0) else (none)) else (none)
theorem laws_toByteS.mono_l : ∀ k, (∀ y0 y1 y2, LeO (laws_toByteS.l0 k y0 y1 y2) (laws_toByteS.l0 (k + 1) y0 y1 y2))
 | 0 => fun _ _ _ r h => by simp [laws_toByteS.l0] at h
 | k + 1 => by
  have ih0 := laws_toByteS.mono_l k
  ·intro y0 y1 y2
   unfold laws_toByteS.l0
   repeat' first
   | (with_reducible exact ih0 _ _ _)
   | (with_reducible exact LeO.refl _)
   | (with_reducible exact LeO.none _)
   | (with_reducible refine LeO.ite ?_ ?_)
   | (with_reducible refine LeO.bind ?_ (fun _ => ?_))
theorem laws_toByteS.mono : ∀ a0 k, LeO (laws_toByteS.f k a0) (laws_toByteS.f (k + 1) a0) := by
 intro a0 k
 have ih0 := laws_toByteS.mono_l k
 unfold laws_toByteS.f
 repeat' first
   | (with_reducible exact ih0 _ _ _)
   | (with_reducible exact LeO.refl _)
   | (with_reducible exact LeO.none _)
   | (with_reducible refine LeO.ite ?_ ?_)
   | (with_reducible refine LeO.bind ?_ (fun _ => ?_))
set_option maxHeartbeats 8000000 in
set_option maxRecDepth 100000 in
theorem laws_toByteS.calls (k : Nat) (A0 : Option Addr) (c0 : Nat) (l0 : List Int) (r : List Int) (w : World) (hr0 : Kd.C (Kd.int .u8) w A0 l0.length l0) (hc0 : l0.length ≤ c0) (h : laws_toByteS.f k l0 = some r) :
  Calls Tryz.prog 21 #[.slice A0 l0.length c0] w fun e w' => ∃ v0_ : Value, e = .returned (v0_) ∧ Kd.R (Kd.int .u8) 5 w' w.heap.size (fun _ => True) v0_ r ∧ Below w.heap.size w w' := by
 have HR0 := zA hr0
 have HC0 := zA hc0
 clear hr0 hc0
 have HB := zA (Below.refl w.heap.size w)
 have H : (if 0 ≤ (l0.length : Int) then (if ((l0.length : Int) : Int).toNat ≤ 281474976710656 then (laws_toByteS.l0 k l0 (List.replicate ((l0.length : Int) : Int).toNat 0) 0) else (none)) else (none)) = some r := h
 clear h
 by_cases c2 : 0 ≤ (l0.length : Int)
 rotate_left
 ·rw [if_neg c2] at H
  exact absurd H (by simp)
 rw [if_pos c2] at H
 have c2b0 := eq_true c2
 have c2b1 := zT c2
 clear c2
 by_cases c3 : ((l0.length : Int) : Int).toNat ≤ 281474976710656
 rotate_left
 ·rw [if_neg c3] at H
  exact absurd H (by simp)
 rw [if_pos c3] at H
 have c3b0 := eq_true c3
 have c3b1 := zT c3
 clear c3
 obtain ⟨y297, hy297⟩ : ∃ y_ : List Int, y_ = (List.replicate ((l0.length : Int) : Int).toNat 0) := ⟨_, rfl⟩
 replace H : (laws_toByteS.l0 k l0 y297 0) = some r := by first | (rw [hy297]; with_reducible exact H) | (have H2_ := (zS _ _).symm.trans H; rw [hy297]; with_reducible exact H2_) | (have H2_ := (zS _ _).symm.trans H; with_reducible exact H2_) | with_reducible exact H | (rw [hy297]; exact H) | exact H
 have Ny297 := zA hy297
 clear hy297
 have H' := zA H
 clear H
 go_enter Tryz.func21, Tryz.ntmps21
 go_wp2_with (first | ((with_reducible refine gate_dst (N := 7) rfl ?_); refine Kd.R_make (Kd.int .u8) _ 5 rfl (N := 7) rfl 30 _ _ rfl (l0.length : Int) rfl rfl Tryz.underlying30 (.int .u8 0) 1 info5 rfl (by decide) (by omega) 0 (ok := fun _ => True) (okp := fun _ => True) rfl (fun _ hk => hk) trivial (zI (by first | (with_reducible assumption) | assumption)) (Nat.le_trans (Nat.mul_le_mul_right _ (zI (by first | (with_reducible assumption) | assumption) : (l0.length : Int).toNat ≤ 281474976710656)) (by omega)) (Below.refl _ _) (Nat.le_refl _) ?_; intro v298 w4 ho5 hb hg_ hnew_; clear hg_ hnew_; (first | rw [← Ny297.out] at ho5 | (simp only [Int.reduceToNat] at ho5; rw [← Ny297.out] at ho5)); have n0_ := zA (Kd.R_lower ho5 (zL (by repeat (first | (with_reducible first | exact HB.out | apply zC | apply zB | apply zF) | exact HB.out)))); have n1_ := nxH hb HB; clear HB; have HO299 := n0_; have HB := n1_; clear n0_ n1_; clear hb ho5))
 go_loopg [4] k (fun kq v4 w' => ∃ (x3_1 : List Int) (x4_1 : Int), v4 = .int .i64 x4_1 ∧ Aside0 (laws_toByteS.l0 kq l0 x3_1 x4_1 = some r) ∧ Aside0 (kq ≤ k) ∧ Aside0 (Kd.R (Kd.int .u8) 5 w' w.heap.size (fun _ => True) v298 x3_1) ∧ Aside0 (Below w.heap.size w w'))
 case atStart => exact ⟨(y297), (0), rfl, H', ⟨Nat.le_refl _⟩, ⟨nxT HO299⟩, ⟨nxD HB⟩⟩
 case round =>
  clear H'
  obtain ⟨x3_1, x4_1, rfl, HA, HK1, HO_3, HB⟩ := hrel
  cases gk with
  | zero => exact absurd HA.out (by simp [laws_toByteS.l0])
  | succ k1 =>
   have H := HA.out
   clear HA
   simp only [laws_toByteS.l0] at H
   by_cases c6 : x4_1 < (l0.length : Int)
   rotate_left
   ·rw [if_neg c6] at H
    have c6b0 := decide_eq_false c6
    clear c6
    obtain rfl := Option.some.inj H
    go_wp2
    go_ret
    exact ⟨_, by first | rfl | (simp [errW_none, errW_some] <;> rfl) | (simp [*, errW_none, errW_some] <;> rfl), by (with_reducible repeat (first | apply zN | apply zM | apply zO)); exact HO_3.out, by repeat (first | (with_reducible first | exact HB.out | apply zC | apply zB | apply zF) | exact HB.out)⟩
   rw [if_pos c6] at H
   have c6b0 := zT c6
   clear c6
   by_cases c7 : 0 ≤ x4_1
   rotate_left
   ·rw [if_neg c7] at H
    exact absurd H (by simp)
   rw [if_pos c7] at H
   have c7b0 := zT c7
   clear c7
   by_cases c8 : x4_1 < (x3_1.length : Int)
   rotate_left
   ·rw [if_neg c8] at H
    exact absurd H (by simp)
   rw [if_pos c8] at H
   have c8b0 := zT c8
   clear c8
   obtain ⟨y301, hy301⟩ : ∃ y_ : List Int, y_ = (x3_1.set (x4_1 : Int).toNat (rd l0 x4_1)) := ⟨_, rfl⟩
   replace H : (laws_toByteS.l0 k1 l0 y301 (wrap64 (x4_1 + 1))) = some r := by first | (rw [hy301]; with_reducible exact H) | (have H2_ := (zS _ _).symm.trans H; rw [hy301]; with_reducible exact H2_) | (have H2_ := (zS _ _).symm.trans H; with_reducible exact H2_) | with_reducible exact H | (rw [hy301]; exact H) | exact H
   have Ny301 := zA hy301
   clear hy301
   have H' := zA H
   clear H
   have p300 : 0 ≤ (x4_1 : Int) := zI (by first | (with_reducible assumption) | assumption)
   have q300 : x4_1 < (l0.length : Int) := zI (by first | (with_reducible assumption) | assumption)
   obtain ⟨ad300, e300, hx300_0⟩ := Kd.at_int HR0.out x4_1 p300 q300
   cases e300
   replace hx300_0 := (HB.out.cell (World.block_lt_of_cell? w _ hx300_0)).trans hx300_0
   replace p300 := eq_true p300
   replace q300 := eq_true q300
   have p9 : 0 ≤ (x4_1 : Int) := zI (by first | (with_reducible assumption) | assumption)
   have q9 : (x4_1 : Int) < ((x3_1.length : Int) : Int) := zI (by first | (with_reducible assumption) | assumption)
   obtain ⟨go9, co9, eo9, gb9, gl9, cl9, HG9⟩ := Kd.R_form HO_3.out (by omega)
   (first | cases eo9 | (injection eo9 with ea_ en_ ec_; (first | subst ea_ | (injection ea_ with ea_; subst ea_)); subst ec_; clear en_))
   have GB9 := zA gb9
   have GG9 := zA HG9
   clear gb9 gl9 HG9
   obtain ⟨hx9_0, hf9_0⟩ := Kd.R_celln 0 HO_3.out (x4_1 : Int) p9 q9
   replace p9 := eq_true p9
   replace q9 := eq_true q9
   have HP10 := Kd.R_putg HO_3.out (x4_1 : Int) (rd l0 x4_1)
   go_wp2_with (first | ((with_reducible refine gate_store (t := 5) (p := 20) rfl ?_); refine store_event (t := 5) (p := 20) (v := ?vo_w11) (w1 := (wr.setCell ⟨go9, (x4_1 : Int).toNat, none⟩ (.int .u8 (rd l0 x4_1)))) ?hg ?ho ?hn ?hr ?_; (case ho => rfl); (case hg => rfl); (case hn => rfl); (case hr => first | (go_simp; done) | (go_simp; rfl)); intro w11 hw; have hg : wr.grownBy w11 (some go9) := (by rw [hw]; exact HP10.2); have hp_ : Kd.R (Kd.int .u8) 5 w11 w.heap.size (fun _ => True) (.slice (some ⟨go9, 0, none⟩) x3_1.length co9) y301 := (by rw [hw, Ny301.out]; exact HP10.1); clear HP10; have n0_ := zA (hp_); have n1_ := zA ((by rw [hw]; exact zE (HB.out) GB9.out : Below w.heap.size w w11)); clear HO_3; clear HB; have HO_3 := n0_; have HB := n1_; clear n0_ n1_; clear hg hw hp_))
   go_roundg k1
   case measure => have := HK1.out; omega
   case rel => exact ⟨(y301), (wrap64 (x4_1 + 1)), rfl, H', ⟨by have := HK1.out; omega⟩, ⟨nxT HO_3⟩, ⟨nxD HB⟩⟩
theorem laws_toByteS.go (l : List Int) (hm : l.length ≤ 281474976710656) (d : Nat) : ∀ (i k : Nat), l.length - i = d → i ≤ l.length → d < k →
  laws_toByteS.l0 k l (l.take i ++ List.replicate (l.length - i) 0) (i : Int) = some l := by
 induction d with
 | zero =>
  intro i k hd hi' hk
  obtain ⟨k, rfl⟩ : ∃ m, k = m + 1 := ⟨k - 1, by omega⟩
  obtain rfl : i = l.length := by omega
  simp only [laws_toByteS.l0]
  rw [if_neg (by omega)]
  simp
 | succ d ih =>
  intro i k hd hi' hk
  obtain ⟨k, rfl⟩ : ∃ m, k = m + 1 := ⟨k - 1, by omega⟩
  have hlt : i < l.length := by omega
  simp only [laws_toByteS.l0]
  rw [if_pos (by omega), if_pos (by omega), if_pos (by simp; omega)]
  have hrd : rd l (i : Int) = l[i] := by simp [rd, hlt]
  have hw : wrap64 ((i : Int) + 1) = ((i + 1 : Nat) : Int) := by unfold wrap64; omega
  rw [hrd, hw]
  have hs : (l.take i ++ List.replicate (l.length - i) 0).set ((i : Int)).toNat l[i] = l.take (i + 1) ++ List.replicate (l.length - (i + 1)) 0 := by
   rw [Int.toNat_natCast, show l.length - i = (l.length - (i + 1)) + 1 by omega, List.replicate_succ, List.take_succ_eq_append_getElem hlt, List.append_assoc]
   rw [List.set_append_right _ _ (by simp; omega)]
   simp [Nat.min_eq_left (Nat.le_of_lt hlt)]
  rw [hs, ih (i + 1) k (by omega) (by omega) (by omega)]
theorem laws_toByteS.ev (l : List Int) (hm : l.length ≤ 281474976710656) : ∃ k, laws_toByteS.f k l = some l :=
 ⟨l.length + 1, by unfold laws_toByteS.f; rw [if_pos (by omega), if_pos (by omega)]; have := laws_toByteS.go l hm l.length 0 (l.length + 1) (by omega) (by omega) (by omega); simpa using this⟩
theorem laws_toByteS.E (l : List Int) (hm : l.length ≤ 1048576) : Ev (fun k => laws_toByteS.f k l) l := by
 obtain ⟨k, h⟩ := laws_toByteS.ev l (by omega)
 exact Ev.of (fun k => laws_toByteS.mono _ k) h
end Go.Proofs.YtilimpjcdeeaiaaGreat.G


namespace Go.Proofs.YtilimpjcdeeaiaaGreat.G
open Go.RowKit Go.Proofs.YtilimpjcdeeaiaaGreatW.PrintWords Go.Proofs.YtilimpjcdeeaiaaGreatW.PrintLast Go.Proofs.YtilimpjcdeeaiaaGreatW.PrintMore
attribute [local go_sem] max2_int min2_int max_two min_two max_three min_three max_four min_four   -- for this text's walks alone
def laws_eqComp.f (a0_0 : Int) (a0_1 : Int) (a0_2 : Int) (a0_3 : Int) (a1_0 : Int) (a1_1 : Int) (a1_2 : Int) (a1_3 : Int) : Option (Bool) := if a0_0 = a1_0 then (if a0_1 = a1_1 then (if a0_2 = a1_2 then (if a0_3 = a1_3 then (some true) else (some false)) else (some false)) else (some false)) else (some false)
set_option maxHeartbeats 8000000 in
set_option maxRecDepth 100000 in
theorem laws_eqComp.calls (a0_0 : Int) (a0_1 : Int) (a0_2 : Int) (a0_3 : Int) (a1_0 : Int) (a1_1 : Int) (a1_2 : Int) (a1_3 : Int) (r : Bool) (w : World) (h : laws_eqComp.f a0_0 a0_1 a0_2 a0_3 a1_0 a1_1 a1_2 a1_3 = some r) :
  Calls Tryz.prog 72 #[.agg #[.int .i64 a0_0, .int .i64 a0_1, .int .i64 a0_2, .int .i64 a0_3], .agg #[.int .i64 a1_0, .int .i64 a1_1, .int .i64 a1_2, .int .i64 a1_3]] w fun e w' => e = .returned (.bool r) ∧ Below w.heap.size w w' := by
 have hu53 := Tryz.underlying53
 have HB := zA (Below.refl w.heap.size w)
 have H : (if a0_0 = a1_0 then (if a0_1 = a1_1 then (if a0_2 = a1_2 then (if a0_3 = a1_3 then (some true) else (some false)) else (some false)) else (some false)) else (some false)) = some r := h
 clear h
 by_cases c3 : a0_0 = a1_0
 ·rw [if_pos c3] at H
  have c3b0 : (a0_0 == a1_0) = true := beq_iff_eq.mpr c3
  have c3b1 : (a0_0 != a1_0) = false := bne_eq_false_iff_eq.mpr c3
  clear c3
  by_cases c4 : a0_1 = a1_1
  ·rw [if_pos c4] at H
   have c4b0 : (a0_1 == a1_1) = true := beq_iff_eq.mpr c4
   have c4b1 : (a0_1 != a1_1) = false := bne_eq_false_iff_eq.mpr c4
   clear c4
   by_cases c5 : a0_2 = a1_2
   ·rw [if_pos c5] at H
    have c5b0 : (a0_2 == a1_2) = true := beq_iff_eq.mpr c5
    have c5b1 : (a0_2 != a1_2) = false := bne_eq_false_iff_eq.mpr c5
    clear c5
    by_cases c6 : a0_3 = a1_3
    ·rw [if_pos c6] at H
     have c6b0 : (a0_3 == a1_3) = true := beq_iff_eq.mpr c6
     have c6b1 : (a0_3 != a1_3) = false := bne_eq_false_iff_eq.mpr c6
     clear c6
     obtain rfl := Option.some.inj H
     go_enter Tryz.func72, Tryz.ntmps72
     go_wp2_with (first | ((with_reducible refine gate_dst (N := 2) rfl ?_); refine nxX (N := 2) (cs := #[.int .i64 a0_0, .int .i64 a0_1, .int .i64 a0_2, .int .i64 a0_3]) (t := 53) ?_; intro gb397 hg w7 hbox hb; have n0_ := nxH hb HB; have n1_ := zA (hbox); clear HB; have HB := n0_; have BK397 := n1_; clear n0_ n1_ ; clear hb hbox hg) | ((with_reducible refine gate_dst (N := 3) rfl ?_); refine nxX (N := 3) (cs := #[.int .i64 a1_0, .int .i64 a1_1, .int .i64 a1_2, .int .i64 a1_3]) (t := 53) ?_; intro gb398 hg w8 hbox hb; have BK398 := zA (hbox); have NB397_398 := nxL BK397 hg; have NB398_397 := nxK BK397 hg; replace BK397 := nxB hb BK397; replace HB := nxH hb HB; clear hb hbox hg; have hnb9 := NB397_398.out; have hnc9 := NB398_397.out; obtain ⟨hcz10_0, hcz10_1, hcz10_2, hcz10_3⟩ := cz4 BK397; obtain ⟨hcz11_0, hcz11_1, hcz11_2, hcz11_3⟩ := cz4 BK398))
     go_ret
     exact ⟨rfl, nxD HB⟩
    ·rw [if_neg c6] at H
     have c6b0 : (a0_3 == a1_3) = false := beq_eq_false_iff_ne.mpr c6
     have c6b1 : (a0_3 != a1_3) = true := bne_iff_ne.mpr c6
     obtain rfl := Option.some.inj H
     go_enter Tryz.func72, Tryz.ntmps72
     go_wp2_with (first | ((with_reducible refine gate_dst (N := 2) rfl ?_); refine nxX (N := 2) (cs := #[.int .i64 a0_0, .int .i64 a0_1, .int .i64 a0_2, .int .i64 a0_3]) (t := 53) ?_; intro gb397 hg w12 hbox hb; have n0_ := nxH hb HB; have n1_ := zA (hbox); clear HB; have HB := n0_; have BK397 := n1_; clear n0_ n1_ ; clear hb hbox hg) | ((with_reducible refine gate_dst (N := 3) rfl ?_); refine nxX (N := 3) (cs := #[.int .i64 a1_0, .int .i64 a1_1, .int .i64 a1_2, .int .i64 a1_3]) (t := 53) ?_; intro gb398 hg w13 hbox hb; have BK398 := zA (hbox); have NB397_398 := nxL BK397 hg; have NB398_397 := nxK BK397 hg; replace BK397 := nxB hb BK397; replace HB := nxH hb HB; clear hb hbox hg; have hnb14 := NB397_398.out; have hnc14 := NB398_397.out; obtain ⟨hcz15_0, hcz15_1, hcz15_2, hcz15_3⟩ := cz4 BK397; obtain ⟨hcz16_0, hcz16_1, hcz16_2, hcz16_3⟩ := cz4 BK398))
     go_ret
     exact ⟨rfl, nxD HB⟩
   ·rw [if_neg c5] at H
    have c5b0 : (a0_2 == a1_2) = false := beq_eq_false_iff_ne.mpr c5
    have c5b1 : (a0_2 != a1_2) = true := bne_iff_ne.mpr c5
    obtain rfl := Option.some.inj H
    go_enter Tryz.func72, Tryz.ntmps72
    go_wp2_with (first | ((with_reducible refine gate_dst (N := 2) rfl ?_); refine nxX (N := 2) (cs := #[.int .i64 a0_0, .int .i64 a0_1, .int .i64 a0_2, .int .i64 a0_3]) (t := 53) ?_; intro gb397 hg w17 hbox hb; have n0_ := nxH hb HB; have n1_ := zA (hbox); clear HB; have HB := n0_; have BK397 := n1_; clear n0_ n1_ ; clear hb hbox hg) | ((with_reducible refine gate_dst (N := 3) rfl ?_); refine nxX (N := 3) (cs := #[.int .i64 a1_0, .int .i64 a1_1, .int .i64 a1_2, .int .i64 a1_3]) (t := 53) ?_; intro gb398 hg w18 hbox hb; have BK398 := zA (hbox); have NB397_398 := nxL BK397 hg; have NB398_397 := nxK BK397 hg; replace BK397 := nxB hb BK397; replace HB := nxH hb HB; clear hb hbox hg; have hnb19 := NB397_398.out; have hnc19 := NB398_397.out; obtain ⟨hcz20_0, hcz20_1, hcz20_2, hcz20_3⟩ := cz4 BK397; obtain ⟨hcz21_0, hcz21_1, hcz21_2, hcz21_3⟩ := cz4 BK398))
    go_ret
    exact ⟨rfl, nxD HB⟩
  ·rw [if_neg c4] at H
   have c4b0 : (a0_1 == a1_1) = false := beq_eq_false_iff_ne.mpr c4
   have c4b1 : (a0_1 != a1_1) = true := bne_iff_ne.mpr c4
   obtain rfl := Option.some.inj H
   go_enter Tryz.func72, Tryz.ntmps72
   go_wp2_with (first | ((with_reducible refine gate_dst (N := 2) rfl ?_); refine nxX (N := 2) (cs := #[.int .i64 a0_0, .int .i64 a0_1, .int .i64 a0_2, .int .i64 a0_3]) (t := 53) ?_; intro gb397 hg w22 hbox hb; have n0_ := nxH hb HB; have n1_ := zA (hbox); clear HB; have HB := n0_; have BK397 := n1_; clear n0_ n1_ ; clear hb hbox hg) | ((with_reducible refine gate_dst (N := 3) rfl ?_); refine nxX (N := 3) (cs := #[.int .i64 a1_0, .int .i64 a1_1, .int .i64 a1_2, .int .i64 a1_3]) (t := 53) ?_; intro gb398 hg w23 hbox hb; have BK398 := zA (hbox); have NB397_398 := nxL BK397 hg; have NB398_397 := nxK BK397 hg; replace BK397 := nxB hb BK397; replace HB := nxH hb HB; clear hb hbox hg; have hnb24 := NB397_398.out; have hnc24 := NB398_397.out; obtain ⟨hcz25_0, hcz25_1, hcz25_2, hcz25_3⟩ := cz4 BK397; obtain ⟨hcz26_0, hcz26_1, hcz26_2, hcz26_3⟩ := cz4 BK398))
   go_ret
   exact ⟨rfl, nxD HB⟩
 ·rw [if_neg c3] at H
  have c3b0 : (a0_0 == a1_0) = false := beq_eq_false_iff_ne.mpr c3
  have c3b1 : (a0_0 != a1_0) = true := bne_iff_ne.mpr c3
  obtain rfl := Option.some.inj H
  go_enter Tryz.func72, Tryz.ntmps72
  go_wp2_with (first | ((with_reducible refine gate_dst (N := 2) rfl ?_); refine nxX (N := 2) (cs := #[.int .i64 a0_0, .int .i64 a0_1, .int .i64 a0_2, .int .i64 a0_3]) (t := 53) ?_; intro gb397 hg w27 hbox hb; have n0_ := nxH hb HB; have n1_ := zA (hbox); clear HB; have HB := n0_; have BK397 := n1_; clear n0_ n1_ ; clear hb hbox hg) | ((with_reducible refine gate_dst (N := 3) rfl ?_); refine nxX (N := 3) (cs := #[.int .i64 a1_0, .int .i64 a1_1, .int .i64 a1_2, .int .i64 a1_3]) (t := 53) ?_; intro gb398 hg w28 hbox hb; have BK398 := zA (hbox); have NB397_398 := nxL BK397 hg; have NB398_397 := nxK BK397 hg; replace BK397 := nxB hb BK397; replace HB := nxH hb HB; clear hb hbox hg; have hnb29 := NB397_398.out; have hnc29 := NB398_397.out; obtain ⟨hcz30_0, hcz30_1, hcz30_2, hcz30_3⟩ := cz4 BK397; obtain ⟨hcz31_0, hcz31_1, hcz31_2, hcz31_3⟩ := cz4 BK398))
  go_ret
  exact ⟨rfl, nxD HB⟩
end Go.Proofs.YtilimpjcdeeaiaaGreat.G


namespace Go.Proofs.YtilimpjcdeeaiaaGreat.G
open Go.RowKit Go.Proofs.YtilimpjcdeeaiaaGreatW.PrintWords Go.Proofs.YtilimpjcdeeaiaaGreatW.PrintLast Go.Proofs.YtilimpjcdeeaiaaGreatW.PrintMore
attribute [local go_sem] max2_int min2_int max_two min_two max_three min_three max_four min_four   -- for this text's walks alone
def laws_eqCompS.l0 : Nat → List (S53) → List (S53) → Int → Option (Bool)
 | 0, _, _, _ => none
 | k + 1, x0, x1, x5 => if x5 < (x0.length : Int) then (if 0 ≤ x5 then (if x5 < (x1.length : Int) then ((laws_eqComp.f ((rd_T53 x0 x5).f0) ((rd_T53 x0 x5).f1) ((rd_T53 x0 x5).f2) ((rd_T53 x0 x5).f3) ((rd_T53 x1 x5).f0) ((rd_T53 x1 x5).f1) ((rd_T53 x1 x5).f2) ((rd_T53 x1 x5).f3)).bind fun t401 => (if t401 = true then (laws_eqCompS.l0 k x0 x1 (wrap64 (x5 + 1))) else (some false))) else (none)) else (none)) else (some true)
def laws_eqCompS.f (k : Nat) (l0 : List (S53)) (l1 : List (S53)) : Option (Bool) := if (l0.length : Int) = (l1.length : Int) then (laws_eqCompS.l0 k l0 l1 0) else (some false)
def laws_eqCompS.T6 : Bool × List (List Nat × List Nat) := (true, [([], []), ([], []), ([0, 1], [0, 1]), ([2], [2]), ([], []), ([], []), ([4, 5], [4, 5]), ([6], [6]), ([3, 7], [3, 7]), ([8], [8])])
def laws_eqCompS.B6 : List Nat := [0, 0, 3, 7, 0, 0, 48, 112, 255, 511]
theorem laws_eqCompS.tab6 : rtab .any (opsOf Tryz.f53 6) = laws_eqCompS.T6 := by kernel_rfl
theorem laws_eqCompS.bits6 : waitsOk laws_eqCompS.T6.2 laws_eqCompS.B6 = true := by kernel_rfl
set_option maxHeartbeats 8000000 in
set_option maxRecDepth 100000 in
theorem laws_eqCompS.calls (k : Nat) (A0 : Option Addr) (c0 : Nat) (l0 : List (S53)) (A1 : Option Addr) (c1 : Nat) (l1 : List (S53)) (r : Bool) (w : World) (hr0 : Kd.C k53 w A0 l0.length l0) (hc0 : l0.length ≤ c0) (hr1 : Kd.C k53 w A1 l1.length l1) (hc1 : l1.length ≤ c1) (h : laws_eqCompS.f k l0 l1 = some r) :
  Calls Tryz.prog 53 #[.slice A0 l0.length c0, .slice A1 l1.length c1] w fun e w' => e = .returned (.bool r) ∧ Below w.heap.size w w' := by
 have hu53 := Tryz.underlying53
 have HR0 := zA hr0
 have HC0 := zA hc0
 clear hr0 hc0
 have HR1 := zA hr1
 have HC1 := zA hc1
 clear hr1 hc1
 have HB := zA (Below.refl w.heap.size w)
 have H : (if (l0.length : Int) = (l1.length : Int) then (laws_eqCompS.l0 k l0 l1 0) else (some false)) = some r := h
 clear h
 by_cases c3 : (l0.length : Int) = (l1.length : Int)
 ·rw [if_pos c3] at H
  have c3b0 : ((l0.length : Int) == (l1.length : Int)) = true := beq_iff_eq.mpr c3
  have c3b1 : ((l0.length : Int) != (l1.length : Int)) = false := bne_eq_false_iff_eq.mpr c3
  have c3b2 : (l0.length == l1.length) = true := by first | simpa using c3 | (simp at c3 ⊢; omega)
  clear c3
  have H' := zA H
  clear H
  go_enter Tryz.func53, Tryz.ntmps53
  go_wp2
  go_loopg [5] k (fun kq v5 w' => ∃ (x5_1 : Int), v5 = .int .i64 x5_1 ∧ Aside0 (laws_eqCompS.l0 kq l0 l1 x5_1 = some r) ∧ Aside0 (kq ≤ k) ∧ Aside0 (Below w.heap.size w w'))
  case atStart => exact ⟨(0), rfl, H', ⟨Nat.le_refl _⟩, ⟨nxD HB⟩⟩
  case round =>
   clear H'
   obtain ⟨x5_1, rfl, HA, HK1, HB⟩ := hrel
   cases gk with
   | zero => exact absurd HA.out (by simp [laws_eqCompS.l0])
   | succ k1 =>
    have H := HA.out
    clear HA
    simp only [laws_eqCompS.l0] at H
    by_cases c4 : x5_1 < (l0.length : Int)
    ·rw [if_pos c4] at H
     have c4b0 := zT c4
     clear c4
     by_cases c5 : 0 ≤ x5_1
     ·rw [if_pos c5] at H
      have c5b0 := zT c5
      clear c5
      by_cases c6 : x5_1 < (l1.length : Int)
      ·rw [if_pos c6] at H
       have c6b0 := zT c6
       clear c6
       replace H := Option.bind_eq_some_iff.mp H
       obtain ⟨t401, A70, H⟩ := H
       try dsimp only at H
       have A7 := zA A70
       clear A70
       have HF8 := zA H
       clear H
       try go_wp2
       replace HB := zA (zF HB.out)
       have p399 : 0 ≤ (x5_1 : Int) := zI (by first | (with_reducible assumption) | assumption)
       have q399 : x5_1 < (l0.length : Int) := zI (by first | (with_reducible assumption) | assumption)
       obtain ⟨ad399, e399, hx399_0, hx399_1, hx399_2, hx399_3⟩ := at_T53 HR0.out x5_1 p399 q399
       have hw399_3 := hx399_3
       have hw399_2 := hx399_2
       have hw399_1 := hx399_1
       have hw399_0 := hx399_0
       cases e399
       replace hx399_0 := (HB.out.cell (World.block_lt_of_cell? w _ hx399_0)).trans hx399_0
       replace hx399_1 := (HB.out.cell (World.block_lt_of_cell? w _ hx399_1)).trans hx399_1
       replace hx399_2 := (HB.out.cell (World.block_lt_of_cell? w _ hx399_2)).trans hx399_2
       replace hx399_3 := (HB.out.cell (World.block_lt_of_cell? w _ hx399_3)).trans hx399_3
       replace p399 := eq_true p399
       replace q399 := eq_true q399
       have p400 : 0 ≤ (x5_1 : Int) := zI (by first | (with_reducible assumption) | assumption)
       have q400 : x5_1 < (l1.length : Int) := zI (by first | (with_reducible assumption) | assumption)
       obtain ⟨ad400, e400, hx400_0, hx400_1, hx400_2, hx400_3⟩ := at_T53 HR1.out x5_1 p400 q400
       have hw400_3 := hx400_3
       have hw400_2 := hx400_2
       have hw400_1 := hx400_1
       have hw400_0 := hx400_0
       cases e400
       replace hx400_0 := (HB.out.cell (World.block_lt_of_cell? w _ hx400_0)).trans hx400_0
       replace hx400_1 := (HB.out.cell (World.block_lt_of_cell? w _ hx400_1)).trans hx400_1
       replace hx400_2 := (HB.out.cell (World.block_lt_of_cell? w _ hx400_2)).trans hx400_2
       replace hx400_3 := (HB.out.cell (World.block_lt_of_cell? w _ hx400_3)).trans hx400_3
       replace p400 := eq_true p400
       replace q400 := eq_true q400
       refine start_ (n := 10) (S := fun w' => w'.cell? (ad399.add ((x5_1).toNat * 4)) = some (.int .i64 ((rd_T53 l0 x5_1).f0)) ∧ w'.cell? ⟨(ad399.add ((x5_1).toNat * 4)).block, (ad399.add ((x5_1).toNat * 4)).off + 1, none⟩ = some (.int .i64 ((rd_T53 l0 x5_1).f1)) ∧ w'.cell? ⟨(ad399.add ((x5_1).toNat * 4)).block, (ad399.add ((x5_1).toNat * 4)).off + 2, none⟩ = some (.int .i64 ((rd_T53 l0 x5_1).f2)) ∧ w'.cell? ⟨(ad399.add ((x5_1).toNat * 4)).block, (ad399.add ((x5_1).toNat * 4)).off + 3, none⟩ = some (.int .i64 ((rd_T53 l0 x5_1).f3)) ∧ w'.cell? (ad400.add ((x5_1).toNat * 4)) = some (.int .i64 ((rd_T53 l1 x5_1).f0)) ∧ w'.cell? ⟨(ad400.add ((x5_1).toNat * 4)).block, (ad400.add ((x5_1).toNat * 4)).off + 1, none⟩ = some (.int .i64 ((rd_T53 l1 x5_1).f1)) ∧ w'.cell? ⟨(ad400.add ((x5_1).toNat * 4)).block, (ad400.add ((x5_1).toNat * 4)).off + 2, none⟩ = some (.int .i64 ((rd_T53 l1 x5_1).f2)) ∧ w'.cell? ⟨(ad400.add ((x5_1).toNat * 4)).block, (ad400.add ((x5_1).toNat * 4)).off + 3, none⟩ = some (.int .i64 ((rd_T53 l1 x5_1).f3))) (ds := []) #[false, false, false, false, false, false, false, false, false, false] (by kernel_rfl) rfl rfl ⟨((HB.out.cell (World.block_lt_of_cell? w _ hw399_0)).trans hw399_0), ((HB.out.cell (World.block_lt_of_cell? w _ hw399_1)).trans hw399_1), ((HB.out.cell (World.block_lt_of_cell? w _ hw399_2)).trans hw399_2), ((HB.out.cell (World.block_lt_of_cell? w _ hw399_3)).trans hw399_3), ((HB.out.cell (World.block_lt_of_cell? w _ hw400_0)).trans hw400_0), ((HB.out.cell (World.block_lt_of_cell? w _ hw400_1)).trans hw400_1), ((HB.out.cell (World.block_lt_of_cell? w _ hw400_2)).trans hw400_2), ((HB.out.cell (World.block_lt_of_cell? w _ hw400_3)).trans hw400_3)⟩ (fun hHeld => ?_); refine with_tabW laws_eqCompS.tab6 laws_eqCompS.bits6 (fun HT_ HW_ => ?_)
       generalize wr.drew = w9 at HB hx399_0 hx399_1 hx399_2 hx399_3 hx400_0 hx400_1 hx400_2 hx400_3 hHeld ⊢
       refine nxY 0 17 HT_ rfl rfl ?_
       refine nxY 1 18 HT_ rfl rfl ?_
       refine nxY 2 19 HT_ rfl rfl ?_
       refine nxY 4 21 HT_ rfl rfl ?_
       refine nxY 5 22 HT_ rfl rfl ?_
       refine nxY 6 23 HT_ rfl rfl ?_
       refine nxW 3 20 HT_ HW_ hHeld rfl rfl ?_
       refine nxW 7 24 HT_ HW_ hHeld rfl rfl ?_
       refine nxO 8 25 HT_ rfl rfl (fun K hK => ?_)
       refine goes_ Tryz.func72 (by kernel_rfl) rfl #[.agg #[.int .i64 ((rd_T53 l0 x5_1).f0), .int .i64 ((rd_T53 l0 x5_1).f1), .int .i64 ((rd_T53 l0 x5_1).f2), .int .i64 ((rd_T53 l0 x5_1).f3)], .agg #[.int .i64 ((rd_T53 l1 x5_1).f0), .int .i64 ((rd_T53 l1 x5_1).f1), .int .i64 ((rd_T53 l1 x5_1).f2), .int .i64 ((rd_T53 l1 x5_1).f3)]] (by rfl) rfl rfl (by (try simp only [zU, zV, zW]); first | done | rfl | (simp only [zR, zQ]; rfl)) ?_
       with_reducible refine (laws_eqComp.calls ((rd_T53 l0 x5_1).f0) ((rd_T53 l0 x5_1).f1) ((rd_T53 l0 x5_1).f2) ((rd_T53 l0 x5_1).f3) ((rd_T53 l1 x5_1).f0) ((rd_T53 l1 x5_1).f1) ((rd_T53 l1 x5_1).f2) ((rd_T53 l1 x5_1).f3) t401 _ A7.out).mono ?_
       rintro e w10 ⟨rfl, hb⟩
       refine ⟨_, rfl, ?_⟩
       replace HB := nxH hb HB
       refine hK.out _ _ ⟨((HB.out.cell (World.block_lt_of_cell? w _ hw399_0)).trans hw399_0), ((HB.out.cell (World.block_lt_of_cell? w _ hw399_1)).trans hw399_1), ((HB.out.cell (World.block_lt_of_cell? w _ hw399_2)).trans hw399_2), ((HB.out.cell (World.block_lt_of_cell? w _ hw399_3)).trans hw399_3), ((HB.out.cell (World.block_lt_of_cell? w _ hw400_0)).trans hw400_0), ((HB.out.cell (World.block_lt_of_cell? w _ hw400_1)).trans hw400_1), ((HB.out.cell (World.block_lt_of_cell? w _ hw400_2)).trans hw400_2), ((HB.out.cell (World.block_lt_of_cell? w _ hw400_3)).trans hw400_3)⟩ (fun hHeld => ?_)
       clear hK K
       refine nxZ 25 ?_
       refine nxY 9 26 HT_ rfl rfl ?_
       refine done_ (done_of HT_.out (by kernel_rfl)) ?_
       go_upto_if 26 with (fail)
       have H := HF8.out
       clear HF8
       by_cases c11 : t401 = true
       ·subst c11
        rw [if_pos rfl] at H
        have H' := zA H
        clear H
        go_wp2
        go_roundg k1
        case measure => have := HK1.out; omega
        case rel => exact ⟨(wrap64 (x5_1 + 1)), rfl, H', ⟨by have := HK1.out; omega⟩, ⟨nxD HB⟩⟩
       ·replace c11 := Bool.eq_false_iff.mpr c11
        subst c11
        rw [if_neg (show ¬ (false = true) by decide)] at H
        obtain rfl := Option.some.inj H
        go_wp2
        go_ret
        exact ⟨rfl, nxD HB⟩
      ·rw [if_neg c6] at H
       exact absurd H (by simp)
     ·rw [if_neg c5] at H
      exact absurd H (by simp)
    ·rw [if_neg c4] at H
     have c4b0 := decide_eq_false c4
     clear c4
     obtain rfl := Option.some.inj H
     go_wp2
     go_ret
     exact ⟨rfl, nxD HB⟩
 ·rw [if_neg c3] at H
  have c3b0 : ((l0.length : Int) == (l1.length : Int)) = false := beq_eq_false_iff_ne.mpr c3
  have c3b1 : ((l0.length : Int) != (l1.length : Int)) = true := bne_iff_ne.mpr c3
  have c3b2 : (l0.length == l1.length) = false := by first | simpa using c3 | (simp at c3 ⊢; omega)
  obtain rfl := Option.some.inj H
  go_enter Tryz.func53, Tryz.ntmps53
  go_wp2
  go_ret
  exact ⟨rfl, nxD HB⟩
theorem laws_eqCompS.T (a : List S53) (ha : a.length ≤ 1048576) : Ev (fun k => laws_eqCompS.f k a a) true := by
 unfold laws_eqCompS.f
 refine Ev.ip rfl ?_
 have key : ∀ d i : Nat, i + d = a.length → Ev (fun k => laws_eqCompS.l0 k a a (i : Int)) true := by
  intro d
  induction d with
  | zero => intro i hi; exact Ev.step (fun _ => by rw [laws_eqCompS.l0]) (Ev.ng (by omega) (Ev.now _))
  | succ d ih =>
   intro i hi
   refine Ev.step (fun _ => by rw [laws_eqCompS.l0]) (Ev.ip (by omega) (Ev.ip (by omega) (Ev.ip (by omega) ?_)))
   rw [wrap_succ i (by omega)]
   exact Ev.bind (Ev.c (r := true) (by unfold laws_eqComp.f; rw [if_pos rfl, if_pos rfl, if_pos rfl, if_pos rfl])) (Ev.ip rfl (ih (i + 1) (by omega)))
 exact key a.length 0 (Nat.zero_add _)
end Go.Proofs.YtilimpjcdeeaiaaGreat.G


namespace Go.Proofs.YtilimpjcdeeaiaaGreat.G
open Go.RowKit Go.Proofs.YtilimpjcdeeaiaaGreatW.PrintWords Go.Proofs.YtilimpjcdeeaiaaGreatW.PrintLast Go.Proofs.YtilimpjcdeeaiaaGreatW.PrintMore
attribute [local go_sem] max2_int min2_int max_two min_two max_three min_three max_four min_four   -- for this text's walks alone
def laws_eqFrame.f (k : Nat) (a0_0 : Int) (a0_1 : Int) (a0_2 : Int) (a0_3 : Int) (l0_4 : List (S53)) (a1_0 : Int) (a1_1 : Int) (a1_2 : Int) (a1_3 : Int) (l1_4 : List (S53)) : Option (Bool) := if a0_0 = a1_0 then (if a0_1 = a1_1 then (if a0_2 = a1_2 then (if a0_3 = a1_3 then ((laws_eqCompS.f k l0_4 l1_4).bind fun t404 => (if t404 = true then (some true) else (some false))) else (some false)) else (some false)) else (some false)) else (some false)
set_option maxHeartbeats 8000000 in
set_option maxRecDepth 100000 in
theorem laws_eqFrame.calls (k : Nat) (a0_0 : Int) (a0_1 : Int) (a0_2 : Int) (a0_3 : Int) (A0_4 : Option Addr) (c0_4 : Nat) (l0_4 : List (S53)) (a1_0 : Int) (a1_1 : Int) (a1_2 : Int) (a1_3 : Int) (A1_4 : Option Addr) (c1_4 : Nat) (l1_4 : List (S53)) (r : Bool) (w : World) (hr0_4 : Kd.C k53 w A0_4 l0_4.length l0_4) (hc0_4 : l0_4.length ≤ c0_4) (hr1_4 : Kd.C k53 w A1_4 l1_4.length l1_4) (hc1_4 : l1_4.length ≤ c1_4) (h : laws_eqFrame.f k a0_0 a0_1 a0_2 a0_3 l0_4 a1_0 a1_1 a1_2 a1_3 l1_4 = some r) :
  Calls Tryz.prog 27 #[.agg #[.int .i64 a0_0, .int .i64 a0_1, .int .i64 a0_2, .int .i64 a0_3, .slice A0_4 l0_4.length c0_4], .agg #[.int .i64 a1_0, .int .i64 a1_1, .int .i64 a1_2, .int .i64 a1_3, .slice A1_4 l1_4.length c1_4]] w fun e w' => e = .returned (.bool r) ∧ Below w.heap.size w w' := by
 have hu37 := Tryz.underlying37
 have HR0_4 := zA hr0_4
 have HC0_4 := zA hc0_4
 clear hr0_4 hc0_4
 have HR1_4 := zA hr1_4
 have HC1_4 := zA hc1_4
 clear hr1_4 hc1_4
 have HB := zA (Below.refl w.heap.size w)
 have H : (if a0_0 = a1_0 then (if a0_1 = a1_1 then (if a0_2 = a1_2 then (if a0_3 = a1_3 then ((laws_eqCompS.f k l0_4 l1_4).bind fun t404 => (if t404 = true then (some true) else (some false))) else (some false)) else (some false)) else (some false)) else (some false)) = some r := h
 clear h
 by_cases c3 : a0_0 = a1_0
 ·rw [if_pos c3] at H
  have c3b0 : (a0_0 == a1_0) = true := beq_iff_eq.mpr c3
  have c3b1 : (a0_0 != a1_0) = false := bne_eq_false_iff_eq.mpr c3
  clear c3
  by_cases c4 : a0_1 = a1_1
  ·rw [if_pos c4] at H
   have c4b0 : (a0_1 == a1_1) = true := beq_iff_eq.mpr c4
   have c4b1 : (a0_1 != a1_1) = false := bne_eq_false_iff_eq.mpr c4
   clear c4
   by_cases c5 : a0_2 = a1_2
   ·rw [if_pos c5] at H
    have c5b0 : (a0_2 == a1_2) = true := beq_iff_eq.mpr c5
    have c5b1 : (a0_2 != a1_2) = false := bne_eq_false_iff_eq.mpr c5
    clear c5
    by_cases c6 : a0_3 = a1_3
    ·rw [if_pos c6] at H
     have c6b0 : (a0_3 == a1_3) = true := beq_iff_eq.mpr c6
     have c6b1 : (a0_3 != a1_3) = false := bne_eq_false_iff_eq.mpr c6
     clear c6
     replace H := Option.bind_eq_some_iff.mp H
     obtain ⟨t404, A70, H⟩ := H
     try dsimp only at H
     have A7 := zA A70
     clear A70
     have HF8 := zA H
     clear H
     go_enter Tryz.func27, Tryz.ntmps27
     go_upto_if 30 with (first | ((with_reducible refine gate_dst (N := 2) rfl ?_); refine nxX (N := 2) (cs := #[.int .i64 a0_0, .int .i64 a0_1, .int .i64 a0_2, .int .i64 a0_3, .slice A0_4 l0_4.length c0_4]) (t := 37) ?_; intro gb402 hg w9 hbox hb; have n0_ := nxH hb HB; have n1_ := zA (hbox); clear HB; have HB := n0_; have BK402 := n1_; clear n0_ n1_ ; clear hb hbox hg) | ((with_reducible refine gate_dst (N := 3) rfl ?_); refine nxX (N := 3) (cs := #[.int .i64 a1_0, .int .i64 a1_1, .int .i64 a1_2, .int .i64 a1_3, .slice A1_4 l1_4.length c1_4]) (t := 37) ?_; intro gb403 hg w10 hbox hb; have BK403 := zA (hbox); have NB402_403 := nxL BK402 hg; have NB403_402 := nxK BK402 hg; replace BK402 := nxB hb BK402; replace HB := nxH hb HB; clear hb hbox hg; have hnb11 := NB402_403.out; have hnc11 := NB403_402.out; obtain ⟨hcz12_0, hcz12_1, hcz12_2, hcz12_3, hcz12_4⟩ := cz5 BK402; obtain ⟨hcz13_0, hcz13_1, hcz13_2, hcz13_3, hcz13_4⟩ := cz5 BK403) | ((with_reducible refine gate_callee (f := 53) rfl ?_); refine goesL_ (some 29) rfl rfl Tryz.func53 (by kernel_rfl) rfl #[.slice A0_4 l0_4.length c0_4, .slice A1_4 l1_4.length c1_4] rfl (by (try simp only [zU, zV, zW]); first | done | rfl | (simp only [zR, zQ]; rfl)) ?_; (with_reducible refine (laws_eqCompS.calls k _ _ l0_4 _ _ l1_4 t404 _ ?side1 ?side2 ?side3 ?side4 A7.out).mono ?_); (case side1 => exact nxC HR0_4 HB); (case side2 => exact HC0_4.out); (case side3 => exact nxC HR1_4 HB); (case side4 => exact HC1_4.out); rintro e w14 ⟨rfl, hb⟩; refine ⟨_, rfl, ?_⟩; replace BK402 := nxB hb BK402; replace BK403 := nxB hb BK403; replace HB := nxH hb HB; (try clear hb); (try clear hb2); (try clear hk); (try clear hi)))
     have H := HF8.out
     clear HF8
     by_cases c15 : t404 = true
     ·subst c15
      rw [if_pos rfl] at H
      obtain rfl := Option.some.inj H
      go_wp2
      go_ret
      exact ⟨rfl, nxD HB⟩
     ·replace c15 := Bool.eq_false_iff.mpr c15
      subst c15
      rw [if_neg (show ¬ (false = true) by decide)] at H
      obtain rfl := Option.some.inj H
      go_wp2
      go_ret
      exact ⟨rfl, nxD HB⟩
    ·rw [if_neg c6] at H
     have c6b0 : (a0_3 == a1_3) = false := beq_eq_false_iff_ne.mpr c6
     have c6b1 : (a0_3 != a1_3) = true := bne_iff_ne.mpr c6
     obtain rfl := Option.some.inj H
     go_enter Tryz.func27, Tryz.ntmps27
     go_wp2_with (first | ((with_reducible refine gate_dst (N := 2) rfl ?_); refine nxX (N := 2) (cs := #[.int .i64 a0_0, .int .i64 a0_1, .int .i64 a0_2, .int .i64 a0_3, .slice A0_4 l0_4.length c0_4]) (t := 37) ?_; intro gb402 hg w16 hbox hb; have n0_ := nxH hb HB; have n1_ := zA (hbox); clear HB; have HB := n0_; have BK402 := n1_; clear n0_ n1_ ; clear hb hbox hg) | ((with_reducible refine gate_dst (N := 3) rfl ?_); refine nxX (N := 3) (cs := #[.int .i64 a1_0, .int .i64 a1_1, .int .i64 a1_2, .int .i64 a1_3, .slice A1_4 l1_4.length c1_4]) (t := 37) ?_; intro gb403 hg w17 hbox hb; have BK403 := zA (hbox); have NB402_403 := nxL BK402 hg; have NB403_402 := nxK BK402 hg; replace BK402 := nxB hb BK402; replace HB := nxH hb HB; clear hb hbox hg; have hnb18 := NB402_403.out; have hnc18 := NB403_402.out; obtain ⟨hcz19_0, hcz19_1, hcz19_2, hcz19_3, hcz19_4⟩ := cz5 BK402; obtain ⟨hcz20_0, hcz20_1, hcz20_2, hcz20_3, hcz20_4⟩ := cz5 BK403))
     go_ret
     exact ⟨rfl, nxD HB⟩
   ·rw [if_neg c5] at H
    have c5b0 : (a0_2 == a1_2) = false := beq_eq_false_iff_ne.mpr c5
    have c5b1 : (a0_2 != a1_2) = true := bne_iff_ne.mpr c5
    obtain rfl := Option.some.inj H
    go_enter Tryz.func27, Tryz.ntmps27
    go_wp2_with (first | ((with_reducible refine gate_dst (N := 2) rfl ?_); refine nxX (N := 2) (cs := #[.int .i64 a0_0, .int .i64 a0_1, .int .i64 a0_2, .int .i64 a0_3, .slice A0_4 l0_4.length c0_4]) (t := 37) ?_; intro gb402 hg w21 hbox hb; have n0_ := nxH hb HB; have n1_ := zA (hbox); clear HB; have HB := n0_; have BK402 := n1_; clear n0_ n1_ ; clear hb hbox hg) | ((with_reducible refine gate_dst (N := 3) rfl ?_); refine nxX (N := 3) (cs := #[.int .i64 a1_0, .int .i64 a1_1, .int .i64 a1_2, .int .i64 a1_3, .slice A1_4 l1_4.length c1_4]) (t := 37) ?_; intro gb403 hg w22 hbox hb; have BK403 := zA (hbox); have NB402_403 := nxL BK402 hg; have NB403_402 := nxK BK402 hg; replace BK402 := nxB hb BK402; replace HB := nxH hb HB; clear hb hbox hg; have hnb23 := NB402_403.out; have hnc23 := NB403_402.out; obtain ⟨hcz24_0, hcz24_1, hcz24_2, hcz24_3, hcz24_4⟩ := cz5 BK402; obtain ⟨hcz25_0, hcz25_1, hcz25_2, hcz25_3, hcz25_4⟩ := cz5 BK403))
    go_ret
    exact ⟨rfl, nxD HB⟩
  ·rw [if_neg c4] at H
   have c4b0 : (a0_1 == a1_1) = false := beq_eq_false_iff_ne.mpr c4
   have c4b1 : (a0_1 != a1_1) = true := bne_iff_ne.mpr c4
   obtain rfl := Option.some.inj H
   go_enter Tryz.func27, Tryz.ntmps27
   go_wp2_with (first | ((with_reducible refine gate_dst (N := 2) rfl ?_); refine nxX (N := 2) (cs := #[.int .i64 a0_0, .int .i64 a0_1, .int .i64 a0_2, .int .i64 a0_3, .slice A0_4 l0_4.length c0_4]) (t := 37) ?_; intro gb402 hg w26 hbox hb; have n0_ := nxH hb HB; have n1_ := zA (hbox); clear HB; have HB := n0_; have BK402 := n1_; clear n0_ n1_ ; clear hb hbox hg) | ((with_reducible refine gate_dst (N := 3) rfl ?_); refine nxX (N := 3) (cs := #[.int .i64 a1_0, .int .i64 a1_1, .int .i64 a1_2, .int .i64 a1_3, .slice A1_4 l1_4.length c1_4]) (t := 37) ?_; intro gb403 hg w27 hbox hb; have BK403 := zA (hbox); have NB402_403 := nxL BK402 hg; have NB403_402 := nxK BK402 hg; replace BK402 := nxB hb BK402; replace HB := nxH hb HB; clear hb hbox hg; have hnb28 := NB402_403.out; have hnc28 := NB403_402.out; obtain ⟨hcz29_0, hcz29_1, hcz29_2, hcz29_3, hcz29_4⟩ := cz5 BK402; obtain ⟨hcz30_0, hcz30_1, hcz30_2, hcz30_3, hcz30_4⟩ := cz5 BK403))
   go_ret
   exact ⟨rfl, nxD HB⟩
 ·rw [if_neg c3] at H
  have c3b0 : (a0_0 == a1_0) = false := beq_eq_false_iff_ne.mpr c3
  have c3b1 : (a0_0 != a1_0) = true := bne_iff_ne.mpr c3
  obtain rfl := Option.some.inj H
  go_enter Tryz.func27, Tryz.ntmps27
  go_wp2_with (first | ((with_reducible refine gate_dst (N := 2) rfl ?_); refine nxX (N := 2) (cs := #[.int .i64 a0_0, .int .i64 a0_1, .int .i64 a0_2, .int .i64 a0_3, .slice A0_4 l0_4.length c0_4]) (t := 37) ?_; intro gb402 hg w31 hbox hb; have n0_ := nxH hb HB; have n1_ := zA (hbox); clear HB; have HB := n0_; have BK402 := n1_; clear n0_ n1_ ; clear hb hbox hg) | ((with_reducible refine gate_dst (N := 3) rfl ?_); refine nxX (N := 3) (cs := #[.int .i64 a1_0, .int .i64 a1_1, .int .i64 a1_2, .int .i64 a1_3, .slice A1_4 l1_4.length c1_4]) (t := 37) ?_; intro gb403 hg w32 hbox hb; have BK403 := zA (hbox); have NB402_403 := nxL BK402 hg; have NB403_402 := nxK BK402 hg; replace BK402 := nxB hb BK402; replace HB := nxH hb HB; clear hb hbox hg; have hnb33 := NB402_403.out; have hnc33 := NB403_402.out; obtain ⟨hcz34_0, hcz34_1, hcz34_2, hcz34_3, hcz34_4⟩ := cz5 BK402; obtain ⟨hcz35_0, hcz35_1, hcz35_2, hcz35_3, hcz35_4⟩ := cz5 BK403))
  go_ret
  exact ⟨rfl, nxD HB⟩
end Go.Proofs.YtilimpjcdeeaiaaGreat.G


namespace Go.Proofs.YtilimpjcdeeaiaaGreat.G
open Go.RowKit Go.Proofs.YtilimpjcdeeaiaaGreatW.PrintWords Go.Proofs.YtilimpjcdeeaiaaGreatW.PrintLast Go.Proofs.YtilimpjcdeeaiaaGreatW.PrintMore
attribute [local go_sem] max2_int min2_int max_two min_two max_three min_three max_four min_four   -- for this text's walks alone
def laws_eqIntS.l0 : Nat → List Int → List Int → Int → Option (Bool)
 | 0, _, _, _ => none
 | k + 1, x0, x1, x5 => if x5 < (x0.length : Int) then (if 0 ≤ x5 then (if x5 < (x1.length : Int) then (if (rd x0 x5) = (rd x1 x5) then (laws_eqIntS.l0 k x0 x1 (wrap64 (x5 + 1))) else (some false)) else (none)) else (none)) else (some true)
def laws_eqIntS.f (k : Nat) (l0 : List Int) (l1 : List Int) : Option (Bool) := if (l0.length : Int) = (l1.length : Int) then (laws_eqIntS.l0 k l0 l1 0) else (some false)
set_option maxHeartbeats 8000000 in
set_option maxRecDepth 100000 in
theorem laws_eqIntS.calls (k : Nat) (A0 : Option Addr) (c0 : Nat) (l0 : List Int) (A1 : Option Addr) (c1 : Nat) (l1 : List Int) (r : Bool) (w : World) (hr0 : Kd.C (Kd.int .i64) w A0 l0.length l0) (hc0 : l0.length ≤ c0) (hr1 : Kd.C (Kd.int .i64) w A1 l1.length l1) (hc1 : l1.length ≤ c1) (h : laws_eqIntS.f k l0 l1 = some r) :
  Calls Tryz.prog 54 #[.slice A0 l0.length c0, .slice A1 l1.length c1] w fun e w' => e = .returned (.bool r) ∧ Drawn0 w w' := by
 have HR0 := zA hr0
 have HC0 := zA hc0
 clear hr0 hc0
 have HR1 := zA hr1
 have HC1 := zA hc1
 clear hr1 hc1
 have H : (if (l0.length : Int) = (l1.length : Int) then (laws_eqIntS.l0 k l0 l1 0) else (some false)) = some r := h
 clear h
 by_cases c3 : (l0.length : Int) = (l1.length : Int)
 rotate_left
 ·rw [if_neg c3] at H
  have c3b0 : ((l0.length : Int) == (l1.length : Int)) = false := beq_eq_false_iff_ne.mpr c3
  have c3b1 : ((l0.length : Int) != (l1.length : Int)) = true := bne_iff_ne.mpr c3
  have c3b2 : (l0.length == l1.length) = false := by first | simpa using c3 | (simp at c3 ⊢; omega)
  obtain rfl := Option.some.inj H
  go_enter Tryz.func54, Tryz.ntmps54
  go_wp2
  repeat (go_quiet (fail); try go_wp2)
  go_ret
  exact ⟨by first | rfl | (simp; done) | (simp [*]; done), by repeat (first | exact Drawn0.refl _ | apply Drawn0.step)⟩
 rw [if_pos c3] at H
 have c3b0 : ((l0.length : Int) == (l1.length : Int)) = true := beq_iff_eq.mpr c3
 have c3b1 : ((l0.length : Int) != (l1.length : Int)) = false := bne_eq_false_iff_eq.mpr c3
 have c3b2 : (l0.length == l1.length) = true := by first | simpa using c3 | (simp at c3 ⊢; omega)
 clear c3
 have H' := zA H
 clear H
 go_enter Tryz.func54, Tryz.ntmps54
 go_wp2
 repeat (go_quiet (fail); try go_wp2)
 go_loopg [5] k (fun kq v5 w' => ∃ (x5_1 : Int), v5 = .int .i64 x5_1 ∧ Aside0 (laws_eqIntS.l0 kq l0 l1 x5_1 = some r) ∧ Aside0 (kq ≤ k) ∧ Drawn0 w w')
 case atStart => exact ⟨(0), rfl, H', ⟨Nat.le_refl _⟩, by repeat (first | exact Drawn0.refl _ | apply Drawn0.step)⟩
 case round =>
  clear H'
  obtain ⟨x5_1, rfl, HA, HK1, ⟨m1, rfl⟩⟩ := hrel
  cases gk with
  | zero => exact absurd HA.out (by simp [laws_eqIntS.l0])
  | succ k1 =>
   have H := HA.out
   clear HA
   simp only [laws_eqIntS.l0] at H
   by_cases c4 : x5_1 < (l0.length : Int)
   rotate_left
   ·rw [if_neg c4] at H
    have c4b0 := decide_eq_false c4
    clear c4
    obtain rfl := Option.some.inj H
    go_wp2
    repeat (go_quiet (fail); try go_wp2)
    go_ret
    exact ⟨by first | rfl | (simp; done) | (simp [*]; done), by repeat (first | exact Drawn0.refl _ | apply Drawn0.step)⟩
   rw [if_pos c4] at H
   have c4b0 := zT c4
   clear c4
   by_cases c5 : 0 ≤ x5_1
   rotate_left
   ·rw [if_neg c5] at H
    exact absurd H (by simp)
   rw [if_pos c5] at H
   have c5b0 := zT c5
   clear c5
   by_cases c6 : x5_1 < (l1.length : Int)
   rotate_left
   ·rw [if_neg c6] at H
    exact absurd H (by simp)
   rw [if_pos c6] at H
   have c6b0 := zT c6
   clear c6
   by_cases c7 : (rd l0 x5_1) = (rd l1 x5_1)
   rotate_left
   ·rw [if_neg c7] at H
    have c7b0 : ((rd l0 x5_1) == (rd l1 x5_1)) = false := beq_eq_false_iff_ne.mpr c7
    have c7b1 : ((rd l0 x5_1) != (rd l1 x5_1)) = true := bne_iff_ne.mpr c7
    obtain rfl := Option.some.inj H
    have p405 : 0 ≤ (x5_1 : Int) := zI (by first | (with_reducible assumption) | assumption)
    have q405 : x5_1 < (l0.length : Int) := zI (by first | (with_reducible assumption) | assumption)
    obtain ⟨ad405, e405, hx405_0⟩ := Kd.at_int HR0.out x5_1 p405 q405
    cases e405
    replace p405 := eq_true p405
    replace q405 := eq_true q405
    have p406 : 0 ≤ (x5_1 : Int) := zI (by first | (with_reducible assumption) | assumption)
    have q406 : x5_1 < (l1.length : Int) := zI (by first | (with_reducible assumption) | assumption)
    obtain ⟨ad406, e406, hx406_0⟩ := Kd.at_int HR1.out x5_1 p406 q406
    cases e406
    replace p406 := eq_true p406
    replace q406 := eq_true q406
    go_wp2
    repeat (go_quiet (fail); try go_wp2)
    go_ret
    exact ⟨by first | rfl | (simp; done) | (simp [*]; done), by repeat (first | exact Drawn0.refl _ | apply Drawn0.step)⟩
   rw [if_pos c7] at H
   have c7b0 : ((rd l0 x5_1) == (rd l1 x5_1)) = true := beq_iff_eq.mpr c7
   have c7b1 : ((rd l0 x5_1) != (rd l1 x5_1)) = false := bne_eq_false_iff_eq.mpr c7
   clear c7
   have H' := zA H
   clear H
   have p405 : 0 ≤ (x5_1 : Int) := zI (by first | (with_reducible assumption) | assumption)
   have q405 : x5_1 < (l0.length : Int) := zI (by first | (with_reducible assumption) | assumption)
   obtain ⟨ad405, e405, hx405_0⟩ := Kd.at_int HR0.out x5_1 p405 q405
   cases e405
   replace p405 := eq_true p405
   replace q405 := eq_true q405
   have p406 : 0 ≤ (x5_1 : Int) := zI (by first | (with_reducible assumption) | assumption)
   have q406 : x5_1 < (l1.length : Int) := zI (by first | (with_reducible assumption) | assumption)
   obtain ⟨ad406, e406, hx406_0⟩ := Kd.at_int HR1.out x5_1 p406 q406
   cases e406
   replace p406 := eq_true p406
   replace q406 := eq_true q406
   go_wp2
   repeat (go_quiet (fail); try go_wp2)
   go_roundg k1
   case measure => have := HK1.out; omega
   case rel => exact ⟨(wrap64 (x5_1 + 1)), rfl, H', ⟨by have := HK1.out; omega⟩, by repeat (first | exact Drawn0.refl _ | apply Drawn0.step)⟩
theorem laws_eqIntS.ev (a b : List Int) (ha : a.length ≤ 4611686018427387904) : Ev (fun k => laws_eqIntS.f k a b) (a == b) := by
 unfold laws_eqIntS.f
 by_cases hl : a.length = b.length
 rotate_left
 ·refine Ev.ng (by omega) (Ev.eq (Ev.now _) ?_)
  symm
  rw [beq_eq_false_iff_ne]
  intro h; exact hl (by rw [h])
 refine Ev.ip (by omega) ?_
 have key : ∀ d i : Nat, a.length - i = d → i ≤ a.length → Ev (fun k => laws_eqIntS.l0 k a b (i : Int)) (a.drop i == b.drop i) := by
  intro d
  induction d with
  | zero =>
   intro i hd hi
   refine Ev.step (fun _ => by rw [laws_eqIntS.l0]) ?_
   refine Ev.ng (by omega) (Ev.eq (Ev.now _) ?_)
   rw [List.drop_of_length_le (by omega), List.drop_of_length_le (by omega)]; rfl
  | succ d ih =>
   intro i hd hi
   have h1 : i < a.length := by omega
   have h2 : i < b.length := by omega
   refine Ev.step (fun _ => by rw [laws_eqIntS.l0]) ?_
   refine Ev.ip (by omega) (Ev.ip (by omega) (Ev.ip (by omega) ?_))
   rw [rd_nat a i h1, rd_nat b i h2, wrap_succ i (by omega)]
   have e : (a.drop i == b.drop i) = (a[i] == b[i] && a.drop (i + 1) == b.drop (i + 1)) := by
    rw [List.drop_eq_getElem_cons h1, List.drop_eq_getElem_cons h2]; rfl
   rw [e]
   by_cases h : a[i] = b[i]
   ·exact Ev.ip h (Ev.eq (ih (i + 1) (by omega) (by omega)) (by simp [h]))
   ·exact Ev.ng h (Ev.eq (Ev.now _) (by simp [h]))
 exact key _ 0 rfl (by omega)
theorem laws_eqIntS.T (a : List Int) (ha : a.length ≤ 1048576) : Ev (fun k => laws_eqIntS.f k a a) true := Ev.eq (laws_eqIntS.ev a a (by omega)) (by simp)
end Go.Proofs.YtilimpjcdeeaiaaGreat.G


namespace Go.Proofs.YtilimpjcdeeaiaaGreat.G
open Go.RowKit Go.Proofs.YtilimpjcdeeaiaaGreatW.PrintWords Go.Proofs.YtilimpjcdeeaiaaGreatW.PrintLast Go.Proofs.YtilimpjcdeeaiaaGreatW.PrintMore
attribute [local go_sem] max2_int min2_int max_two min_two max_three min_three max_four min_four   -- for this text's walks alone
def laws_eqIntSS.l0 : Nat → List (List Int) → List (List Int) → Int → Option (Bool)
 | 0, _, _, _ => none
 | k + 1, x0, x1, x5 => if x5 < (x0.length : Int) then (if 0 ≤ x5 then (if x5 < (x1.length : Int) then ((laws_eqIntS.f k (rd_L2 x0 x5) (rd_L2 x1 x5)).bind fun t409 => (if t409 = true then (laws_eqIntSS.l0 k x0 x1 (wrap64 (x5 + 1))) else (some false))) else (none)) else (none)) else (some true)
def laws_eqIntSS.f (k : Nat) (l0 : List (List Int)) (l1 : List (List Int)) : Option (Bool) := if (l0.length : Int) = (l1.length : Int) then (laws_eqIntSS.l0 k l0 l1 0) else (some false)
set_option maxHeartbeats 8000000 in
set_option maxRecDepth 100000 in
theorem laws_eqIntSS.calls (k : Nat) (A0 : Option Addr) (c0 : Nat) (l0 : List (List Int)) (A1 : Option Addr) (c1 : Nat) (l1 : List (List Int)) (r : Bool) (w : World) (hr0 : Kd.C (Kd.slice 3 (Kd.int .i64)) w A0 l0.length l0) (hc0 : l0.length ≤ c0) (hr1 : Kd.C (Kd.slice 3 (Kd.int .i64)) w A1 l1.length l1) (hc1 : l1.length ≤ c1) (h : laws_eqIntSS.f k l0 l1 = some r) :
  Calls Tryz.prog 28 #[.slice A0 l0.length c0, .slice A1 l1.length c1] w fun e w' => e = .returned (.bool r) ∧ Drawn0 w w' := by
 have HR0 := zA hr0
 have HC0 := zA hc0
 clear hr0 hc0
 have HR1 := zA hr1
 have HC1 := zA hc1
 clear hr1 hc1
 have H : (if (l0.length : Int) = (l1.length : Int) then (laws_eqIntSS.l0 k l0 l1 0) else (some false)) = some r := h
 clear h
 by_cases c3 : (l0.length : Int) = (l1.length : Int)
 rotate_left
 ·rw [if_neg c3] at H
  have c3b0 : ((l0.length : Int) == (l1.length : Int)) = false := beq_eq_false_iff_ne.mpr c3
  have c3b1 : ((l0.length : Int) != (l1.length : Int)) = true := bne_iff_ne.mpr c3
  have c3b2 : (l0.length == l1.length) = false := by first | simpa using c3 | (simp at c3 ⊢; omega)
  obtain rfl := Option.some.inj H
  go_enter Tryz.func28, Tryz.ntmps28
  go_wp2
  repeat (go_quiet (fail); try go_wp2)
  go_ret
  exact ⟨by first | rfl | (simp; done) | (simp [*]; done), by repeat (first | exact Drawn0.refl _ | apply Drawn0.step)⟩
 rw [if_pos c3] at H
 have c3b0 : ((l0.length : Int) == (l1.length : Int)) = true := beq_iff_eq.mpr c3
 have c3b1 : ((l0.length : Int) != (l1.length : Int)) = false := bne_eq_false_iff_eq.mpr c3
 have c3b2 : (l0.length == l1.length) = true := by first | simpa using c3 | (simp at c3 ⊢; omega)
 clear c3
 have H' := zA H
 clear H
 go_enter Tryz.func28, Tryz.ntmps28
 go_wp2
 repeat (go_quiet (fail); try go_wp2)
 go_loopg [5] k (fun kq v5 w' => ∃ (x5_1 : Int), v5 = .int .i64 x5_1 ∧ Aside0 (laws_eqIntSS.l0 kq l0 l1 x5_1 = some r) ∧ Aside0 (kq ≤ k) ∧ Drawn0 w w')
 case atStart => exact ⟨(0), rfl, H', ⟨Nat.le_refl _⟩, by repeat (first | exact Drawn0.refl _ | apply Drawn0.step)⟩
 case round =>
  clear H'
  obtain ⟨x5_1, rfl, HA, HK1, ⟨m1, rfl⟩⟩ := hrel
  cases gk with
  | zero => exact absurd HA.out (by simp [laws_eqIntSS.l0])
  | succ k1 =>
   have H := HA.out
   clear HA
   simp only [laws_eqIntSS.l0] at H
   by_cases c4 : x5_1 < (l0.length : Int)
   rotate_left
   ·rw [if_neg c4] at H
    have c4b0 := decide_eq_false c4
    clear c4
    obtain rfl := Option.some.inj H
    go_wp2
    repeat (go_quiet (fail); try go_wp2)
    go_ret
    exact ⟨by first | rfl | (simp; done) | (simp [*]; done), by repeat (first | exact Drawn0.refl _ | apply Drawn0.step)⟩
   rw [if_pos c4] at H
   have c4b0 := zT c4
   clear c4
   by_cases c5 : 0 ≤ x5_1
   rotate_left
   ·rw [if_neg c5] at H
    exact absurd H (by simp)
   rw [if_pos c5] at H
   have c5b0 := zT c5
   clear c5
   by_cases c6 : x5_1 < (l1.length : Int)
   rotate_left
   ·rw [if_neg c6] at H
    exact absurd H (by simp)
   rw [if_pos c6] at H
   have c6b0 := zT c6
   clear c6
   replace H := Option.bind_eq_some_iff.mp H
   obtain ⟨t409, A70, H⟩ := H
   try dsimp only at H
   have A7 := zA A70
   clear A70
   have HF8 := zA H
   clear H
   have p407 : 0 ≤ (x5_1 : Int) := zI (by first | (with_reducible assumption) | assumption)
   have q407 : x5_1 < (l0.length : Int) := zI (by first | (with_reducible assumption) | assumption)
   obtain ⟨ad407, A407_0, c407_0, e407, hx407_0, hl407_0, hi407_0⟩ := at_L2 HR0.out x5_1 p407 q407
   cases e407
   have HR407_0 := zA hi407_0
   have HC407_0 := zA hl407_0
   clear hi407_0 hl407_0
   replace p407 := eq_true p407
   replace q407 := eq_true q407
   have p408 : 0 ≤ (x5_1 : Int) := zI (by first | (with_reducible assumption) | assumption)
   have q408 : x5_1 < (l1.length : Int) := zI (by first | (with_reducible assumption) | assumption)
   obtain ⟨ad408, A408_0, c408_0, e408, hx408_0, hl408_0, hi408_0⟩ := at_L2 HR1.out x5_1 p408 q408
   cases e408
   have HR408_0 := zA hi408_0
   have HC408_0 := zA hl408_0
   clear hi408_0 hl408_0
   replace p408 := eq_true p408
   replace q408 := eq_true q408
   go_upto_if 26 with (first | (go_at_call 54; (with_reducible refine (laws_eqIntS.calls k1 _ _ (rd_L2 l0 x5_1) _ _ (rd_L2 l1 x5_1) t409 _ ?side1 ?side2 ?side3 ?side4 A7.out).mono ?_); (case side1 => repeat (first | exact HR407_0.out | (with_reducible refine yH ?_ _) | (with_reducible refine yF ?_ _) | (with_reducible refine yG ?_))); (case side2 => exact HC407_0.out); (case side3 => repeat (first | exact HR408_0.out | (with_reducible refine yH ?_ _) | (with_reducible refine yF ?_ _) | (with_reducible refine yG ?_))); (case side4 => exact HC408_0.out); rintro e w' ⟨rfl, ⟨nd, rfl⟩⟩; (try first | exact ⟨rfl, _, World.drewN_drewN _ _ _⟩ | exact ⟨rfl, _, Eq.trans (World.drewN_drewN _ _ _) (congrArg (World.drewN _) (Nat.add_assoc _ _ _))⟩)))
   repeat (go_quiet (first | (go_at_call 54; (with_reducible refine (laws_eqIntS.calls k1 _ _ (rd_L2 l0 x5_1) _ _ (rd_L2 l1 x5_1) t409 _ ?side1 ?side2 ?side3 ?side4 A7.out).mono ?_); (case side1 => repeat (first | exact HR407_0.out | (with_reducible refine yH ?_ _) | (with_reducible refine yF ?_ _) | (with_reducible refine yG ?_))); (case side2 => exact HC407_0.out); (case side3 => repeat (first | exact HR408_0.out | (with_reducible refine yH ?_ _) | (with_reducible refine yF ?_ _) | (with_reducible refine yG ?_))); (case side4 => exact HC408_0.out); rintro e w' ⟨rfl, ⟨nd, rfl⟩⟩; (try first | exact ⟨rfl, _, World.drewN_drewN _ _ _⟩ | exact ⟨rfl, _, Eq.trans (World.drewN_drewN _ _ _) (congrArg (World.drewN _) (Nat.add_assoc _ _ _))⟩))); go_upto_if 26 with (first | (go_at_call 54; (with_reducible refine (laws_eqIntS.calls k1 _ _ (rd_L2 l0 x5_1) _ _ (rd_L2 l1 x5_1) t409 _ ?side1 ?side2 ?side3 ?side4 A7.out).mono ?_); (case side1 => repeat (first | exact HR407_0.out | (with_reducible refine yH ?_ _) | (with_reducible refine yF ?_ _) | (with_reducible refine yG ?_))); (case side2 => exact HC407_0.out); (case side3 => repeat (first | exact HR408_0.out | (with_reducible refine yH ?_ _) | (with_reducible refine yF ?_ _) | (with_reducible refine yG ?_))); (case side4 => exact HC408_0.out); rintro e w' ⟨rfl, ⟨nd, rfl⟩⟩; (try first | exact ⟨rfl, _, World.drewN_drewN _ _ _⟩ | exact ⟨rfl, _, Eq.trans (World.drewN_drewN _ _ _) (congrArg (World.drewN _) (Nat.add_assoc _ _ _))⟩))))
   have H := HF8.out
   clear HF8
   by_cases c9 : t409 = true
   rotate_left
   ·replace c9 := Bool.eq_false_iff.mpr c9
    subst c9
    rw [if_neg (show ¬ (false = true) by decide)] at H
    obtain rfl := Option.some.inj H
    go_wp2
    repeat (go_quiet (fail); try go_wp2)
    go_ret
    exact ⟨by first | rfl | (simp; done) | (simp [*]; done), by repeat (first | exact Drawn0.refl _ | apply Drawn0.step)⟩
   subst c9
   rw [if_pos rfl] at H
   have H' := zA H
   clear H
   go_wp2
   repeat (go_quiet (fail); try go_wp2)
   go_roundg k1
   case measure => have := HK1.out; omega
   case rel => exact ⟨(wrap64 (x5_1 + 1)), rfl, H', ⟨by have := HK1.out; omega⟩, by repeat (first | exact Drawn0.refl _ | apply Drawn0.step)⟩
theorem rdL_nat (l : List (List Int)) (i : Nat) (h : i < l.length) : rd_L2 l (i : Int) = l[i] := by simp [rd_L2, h]
theorem laws_eqIntSS.ev (a b : List (List Int)) (ha : a.length ≤ 4611686018427387904) (hal : ∀ x ∈ a, x.length ≤ 4611686018427387904) : Ev (fun k => laws_eqIntSS.f k a b) (a == b) := by
 unfold laws_eqIntSS.f
 by_cases hl : a.length = b.length
 rotate_left
 ·refine Ev.ng (by omega) (Ev.eq (Ev.now _) ?_)
  symm
  rw [beq_eq_false_iff_ne]
  intro h; exact hl (by rw [h])
 refine Ev.ip (by omega) ?_
 have key : ∀ d i : Nat, a.length - i = d → i ≤ a.length → Ev (fun k => laws_eqIntSS.l0 k a b (i : Int)) (a.drop i == b.drop i) := by
  intro d
  induction d with
  | zero =>
   intro i hd hi
   refine Ev.step (fun _ => by rw [laws_eqIntSS.l0]) ?_
   refine Ev.ng (by omega) (Ev.eq (Ev.now _) ?_)
   rw [List.drop_of_length_le (by omega), List.drop_of_length_le (by omega)]; rfl
  | succ d ih =>
   intro i hd hi
   have h1 : i < a.length := by omega
   have h2 : i < b.length := by omega
   refine Ev.step (fun _ => by rw [laws_eqIntSS.l0]) ?_
   refine Ev.ip (by omega) (Ev.ip (by omega) (Ev.ip (by omega) ?_))
   rw [rdL_nat a i h1, rdL_nat b i h2, wrap_succ i (by omega)]
   have e : (a.drop i == b.drop i) = (a[i] == b[i] && a.drop (i + 1) == b.drop (i + 1)) := by
    rw [List.drop_eq_getElem_cons h1, List.drop_eq_getElem_cons h2]; rfl
   rw [e]
   refine Ev.bind (laws_eqIntS.ev _ _ (hal _ (List.getElem_mem _))) ?_
   by_cases h : a[i] = b[i]
   ·exact Ev.ip (by simp [h]) (Ev.eq (ih (i + 1) (by omega) (by omega)) (by simp [h]))
   ·exact Ev.ng (by simp [h]) (Ev.eq (Ev.now _) (by simp [h]))
 exact key _ 0 rfl (by omega)
theorem laws_eqIntSS.T (a : List (List Int)) (ha : a.length ≤ 1048576) (hx : ∀ x ∈ a, x.length ≤ 1048576) : Ev (fun k => laws_eqIntSS.f k a a) true := Ev.eq (laws_eqIntSS.ev a a (by omega) (fun x h => by have := hx x h; omega)) (by simp)
end Go.Proofs.YtilimpjcdeeaiaaGreat.G


namespace Go.Proofs.YtilimpjcdeeaiaaGreat.G
open Go.RowKit Go.Proofs.YtilimpjcdeeaiaaGreatW.PrintWords Go.Proofs.YtilimpjcdeeaiaaGreatW.PrintLast Go.Proofs.YtilimpjcdeeaiaaGreatW.PrintMore
attribute [local go_sem] max2_int min2_int max_two min_two max_three min_three max_four min_four   -- for this text's walks alone
def laws_eqIntSSS.l0 : Nat → List (List (List Int)) → List (List (List Int)) → Int → Option (Bool)
 | 0, _, _, _ => none
 | k + 1, x0, x1, x5 => if x5 < (x0.length : Int) then (if 0 ≤ x5 then (if x5 < (x1.length : Int) then ((laws_eqIntSS.f k (rd_L3 x0 x5) (rd_L3 x1 x5)).bind fun t412 => (if t412 = true then (laws_eqIntSSS.l0 k x0 x1 (wrap64 (x5 + 1))) else (some false))) else (none)) else (none)) else (some true)
def laws_eqIntSSS.f (k : Nat) (l0 : List (List (List Int))) (l1 : List (List (List Int))) : Option (Bool) := if (l0.length : Int) = (l1.length : Int) then (laws_eqIntSSS.l0 k l0 l1 0) else (some false)
set_option maxHeartbeats 8000000 in
set_option maxRecDepth 100000 in
theorem laws_eqIntSSS.calls (k : Nat) (A0 : Option Addr) (c0 : Nat) (l0 : List (List (List Int))) (A1 : Option Addr) (c1 : Nat) (l1 : List (List (List Int))) (r : Bool) (w : World) (hr0 : Kd.C (Kd.slice 66 (Kd.slice 3 (Kd.int .i64))) w A0 l0.length l0) (hc0 : l0.length ≤ c0) (hr1 : Kd.C (Kd.slice 66 (Kd.slice 3 (Kd.int .i64))) w A1 l1.length l1) (hc1 : l1.length ≤ c1) (h : laws_eqIntSSS.f k l0 l1 = some r) :
  Calls Tryz.prog 55 #[.slice A0 l0.length c0, .slice A1 l1.length c1] w fun e w' => e = .returned (.bool r) ∧ Drawn0 w w' := by
 have HR0 := zA hr0
 have HC0 := zA hc0
 clear hr0 hc0
 have HR1 := zA hr1
 have HC1 := zA hc1
 clear hr1 hc1
 have H : (if (l0.length : Int) = (l1.length : Int) then (laws_eqIntSSS.l0 k l0 l1 0) else (some false)) = some r := h
 clear h
 by_cases c3 : (l0.length : Int) = (l1.length : Int)
 rotate_left
 ·rw [if_neg c3] at H
  have c3b0 : ((l0.length : Int) == (l1.length : Int)) = false := beq_eq_false_iff_ne.mpr c3
  have c3b1 : ((l0.length : Int) != (l1.length : Int)) = true := bne_iff_ne.mpr c3
  have c3b2 : (l0.length == l1.length) = false := by first | simpa using c3 | (simp at c3 ⊢; omega)
  obtain rfl := Option.some.inj H
  go_enter Tryz.func55, Tryz.ntmps55
  go_wp2
  repeat (go_quiet (fail); try go_wp2)
  go_ret
  exact ⟨by first | rfl | (simp; done) | (simp [*]; done), by repeat (first | exact Drawn0.refl _ | apply Drawn0.step)⟩
 rw [if_pos c3] at H
 have c3b0 : ((l0.length : Int) == (l1.length : Int)) = true := beq_iff_eq.mpr c3
 have c3b1 : ((l0.length : Int) != (l1.length : Int)) = false := bne_eq_false_iff_eq.mpr c3
 have c3b2 : (l0.length == l1.length) = true := by first | simpa using c3 | (simp at c3 ⊢; omega)
 clear c3
 have H' := zA H
 clear H
 go_enter Tryz.func55, Tryz.ntmps55
 go_wp2
 repeat (go_quiet (fail); try go_wp2)
 go_loopg [5] k (fun kq v5 w' => ∃ (x5_1 : Int), v5 = .int .i64 x5_1 ∧ Aside0 (laws_eqIntSSS.l0 kq l0 l1 x5_1 = some r) ∧ Aside0 (kq ≤ k) ∧ Drawn0 w w')
 case atStart => exact ⟨(0), rfl, H', ⟨Nat.le_refl _⟩, by repeat (first | exact Drawn0.refl _ | apply Drawn0.step)⟩
 case round =>
  clear H'
  obtain ⟨x5_1, rfl, HA, HK1, ⟨m1, rfl⟩⟩ := hrel
  cases gk with
  | zero => exact absurd HA.out (by simp [laws_eqIntSSS.l0])
  | succ k1 =>
   have H := HA.out
   clear HA
   simp only [laws_eqIntSSS.l0] at H
   by_cases c4 : x5_1 < (l0.length : Int)
   rotate_left
   ·rw [if_neg c4] at H
    have c4b0 := decide_eq_false c4
    clear c4
    obtain rfl := Option.some.inj H
    go_wp2
    repeat (go_quiet (fail); try go_wp2)
    go_ret
    exact ⟨by first | rfl | (simp; done) | (simp [*]; done), by repeat (first | exact Drawn0.refl _ | apply Drawn0.step)⟩
   rw [if_pos c4] at H
   have c4b0 := zT c4
   clear c4
   by_cases c5 : 0 ≤ x5_1
   rotate_left
   ·rw [if_neg c5] at H
    exact absurd H (by simp)
   rw [if_pos c5] at H
   have c5b0 := zT c5
   clear c5
   by_cases c6 : x5_1 < (l1.length : Int)
   rotate_left
   ·rw [if_neg c6] at H
    exact absurd H (by simp)
   rw [if_pos c6] at H
   have c6b0 := zT c6
   clear c6
   replace H := Option.bind_eq_some_iff.mp H
   obtain ⟨t412, A70, H⟩ := H
   try dsimp only at H
   have A7 := zA A70
   clear A70
   have HF8 := zA H
   clear H
   have p410 : 0 ≤ (x5_1 : Int) := zI (by first | (with_reducible assumption) | assumption)
   have q410 : x5_1 < (l0.length : Int) := zI (by first | (with_reducible assumption) | assumption)
   obtain ⟨ad410, A410_0, c410_0, e410, hx410_0, hl410_0, hi410_0⟩ := at_L3 HR0.out x5_1 p410 q410
   cases e410
   have HR410_0 := zA hi410_0
   have HC410_0 := zA hl410_0
   clear hi410_0 hl410_0
   replace p410 := eq_true p410
   replace q410 := eq_true q410
   have p411 : 0 ≤ (x5_1 : Int) := zI (by first | (with_reducible assumption) | assumption)
   have q411 : x5_1 < (l1.length : Int) := zI (by first | (with_reducible assumption) | assumption)
   obtain ⟨ad411, A411_0, c411_0, e411, hx411_0, hl411_0, hi411_0⟩ := at_L3 HR1.out x5_1 p411 q411
   cases e411
   have HR411_0 := zA hi411_0
   have HC411_0 := zA hl411_0
   clear hi411_0 hl411_0
   replace p411 := eq_true p411
   replace q411 := eq_true q411
   go_upto_if 26 with (first | (go_at_call 28; (with_reducible refine (laws_eqIntSS.calls k1 _ _ (rd_L3 l0 x5_1) _ _ (rd_L3 l1 x5_1) t412 _ ?side1 ?side2 ?side3 ?side4 A7.out).mono ?_); (case side1 => repeat (first | exact HR410_0.out | (with_reducible refine yH ?_ _) | (with_reducible refine yF ?_ _) | (with_reducible refine yG ?_))); (case side2 => exact HC410_0.out); (case side3 => repeat (first | exact HR411_0.out | (with_reducible refine yH ?_ _) | (with_reducible refine yF ?_ _) | (with_reducible refine yG ?_))); (case side4 => exact HC411_0.out); rintro e w' ⟨rfl, ⟨nd, rfl⟩⟩; (try first | exact ⟨rfl, _, World.drewN_drewN _ _ _⟩ | exact ⟨rfl, _, Eq.trans (World.drewN_drewN _ _ _) (congrArg (World.drewN _) (Nat.add_assoc _ _ _))⟩)))
   repeat (go_quiet (first | (go_at_call 28; (with_reducible refine (laws_eqIntSS.calls k1 _ _ (rd_L3 l0 x5_1) _ _ (rd_L3 l1 x5_1) t412 _ ?side1 ?side2 ?side3 ?side4 A7.out).mono ?_); (case side1 => repeat (first | exact HR410_0.out | (with_reducible refine yH ?_ _) | (with_reducible refine yF ?_ _) | (with_reducible refine yG ?_))); (case side2 => exact HC410_0.out); (case side3 => repeat (first | exact HR411_0.out | (with_reducible refine yH ?_ _) | (with_reducible refine yF ?_ _) | (with_reducible refine yG ?_))); (case side4 => exact HC411_0.out); rintro e w' ⟨rfl, ⟨nd, rfl⟩⟩; (try first | exact ⟨rfl, _, World.drewN_drewN _ _ _⟩ | exact ⟨rfl, _, Eq.trans (World.drewN_drewN _ _ _) (congrArg (World.drewN _) (Nat.add_assoc _ _ _))⟩))); go_upto_if 26 with (first | (go_at_call 28; (with_reducible refine (laws_eqIntSS.calls k1 _ _ (rd_L3 l0 x5_1) _ _ (rd_L3 l1 x5_1) t412 _ ?side1 ?side2 ?side3 ?side4 A7.out).mono ?_); (case side1 => repeat (first | exact HR410_0.out | (with_reducible refine yH ?_ _) | (with_reducible refine yF ?_ _) | (with_reducible refine yG ?_))); (case side2 => exact HC410_0.out); (case side3 => repeat (first | exact HR411_0.out | (with_reducible refine yH ?_ _) | (with_reducible refine yF ?_ _) | (with_reducible refine yG ?_))); (case side4 => exact HC411_0.out); rintro e w' ⟨rfl, ⟨nd, rfl⟩⟩; (try first | exact ⟨rfl, _, World.drewN_drewN _ _ _⟩ | exact ⟨rfl, _, Eq.trans (World.drewN_drewN _ _ _) (congrArg (World.drewN _) (Nat.add_assoc _ _ _))⟩))))
   have H := HF8.out
   clear HF8
   by_cases c9 : t412 = true
   rotate_left
   ·replace c9 := Bool.eq_false_iff.mpr c9
    subst c9
    rw [if_neg (show ¬ (false = true) by decide)] at H
    obtain rfl := Option.some.inj H
    go_wp2
    repeat (go_quiet (fail); try go_wp2)
    go_ret
    exact ⟨by first | rfl | (simp; done) | (simp [*]; done), by repeat (first | exact Drawn0.refl _ | apply Drawn0.step)⟩
   subst c9
   rw [if_pos rfl] at H
   have H' := zA H
   clear H
   go_wp2
   repeat (go_quiet (fail); try go_wp2)
   go_roundg k1
   case measure => have := HK1.out; omega
   case rel => exact ⟨(wrap64 (x5_1 + 1)), rfl, H', ⟨by have := HK1.out; omega⟩, by repeat (first | exact Drawn0.refl _ | apply Drawn0.step)⟩
theorem laws_eqIntSSS.T (a : List (List (List Int))) (ha : a.length ≤ 1048576) (hx : ∀ x ∈ a, x.length ≤ 1048576 ∧ ∀ y ∈ x, y.length ≤ 1048576) : Ev (fun k => laws_eqIntSSS.f k a a) true := by
 unfold laws_eqIntSSS.f
 refine Ev.ip rfl ?_
 have key : ∀ d i : Nat, i + d = a.length → Ev (fun k => laws_eqIntSSS.l0 k a a (i : Int)) true := by
  intro d
  induction d with
  | zero => intro i hi; exact Ev.step (fun _ => by rw [laws_eqIntSSS.l0]) (Ev.ng (by omega) (Ev.now _))
  | succ d ih =>
   intro i hi
   have h1 : i < a.length := by omega
   have hb := hx _ (List.getElem_mem h1)
   refine Ev.step (fun _ => by rw [laws_eqIntSSS.l0]) (Ev.ip (by omega) (Ev.ip (by omega) (Ev.ip (by omega) ?_)))
   rw [show rd_L3 a (i : Int) = a[i] by simp [rd_L3, h1], wrap_succ i (by omega)]
   exact Ev.bind (laws_eqIntSS.T a[i] hb.1 hb.2) (Ev.ip rfl (ih (i + 1) (by omega)))
 exact key a.length 0 (Nat.zero_add _)
end Go.Proofs.YtilimpjcdeeaiaaGreat.G


namespace Go.Proofs.YtilimpjcdeeaiaaGreat.G
open Go.RowKit Go.Proofs.YtilimpjcdeeaiaaGreatW.PrintWords Go.Proofs.YtilimpjcdeeaiaaGreatW.PrintLast Go.Proofs.YtilimpjcdeeaiaaGreatW.PrintMore
attribute [local go_sem] max2_int min2_int max_two min_two max_three min_three max_four min_four   -- for this text's walks alone
def laws_eqCoefs.f (k : Nat) (l0_0 : List (List (List Int))) (l1_0 : List (List (List Int))) : Option (Bool) := (laws_eqIntSSS.f k l0_0 l1_0).bind fun t415 => (if t415 = true then (some true) else (some false))
set_option maxHeartbeats 8000000 in
set_option maxRecDepth 100000 in
theorem laws_eqCoefs.calls (k : Nat) (A0_0 : Option Addr) (c0_0 : Nat) (l0_0 : List (List (List Int))) (A1_0 : Option Addr) (c1_0 : Nat) (l1_0 : List (List (List Int))) (r : Bool) (w : World) (hr0_0 : Kd.C (Kd.slice 66 (Kd.slice 3 (Kd.int .i64))) w A0_0 l0_0.length l0_0) (hc0_0 : l0_0.length ≤ c0_0) (hr1_0 : Kd.C (Kd.slice 66 (Kd.slice 3 (Kd.int .i64))) w A1_0 l1_0.length l1_0) (hc1_0 : l1_0.length ≤ c1_0) (h : laws_eqCoefs.f k l0_0 l1_0 = some r) :
  Calls Tryz.prog 29 #[.agg #[.slice A0_0 l0_0.length c0_0], .agg #[.slice A1_0 l1_0.length c1_0]] w fun e w' => e = .returned (.bool r) ∧ Below w.heap.size w w' := by
 have hu38 := Tryz.underlying38
 have HR0_0 := zA hr0_0
 have HC0_0 := zA hc0_0
 clear hr0_0 hc0_0
 have HR1_0 := zA hr1_0
 have HC1_0 := zA hc1_0
 clear hr1_0 hc1_0
 have HB := zA (Below.refl w.heap.size w)
 have H : ((laws_eqIntSSS.f k l0_0 l1_0).bind fun t415 => (if t415 = true then (some true) else (some false))) = some r := h
 clear h
 replace H := Option.bind_eq_some_iff.mp H
 obtain ⟨t415, A30, H⟩ := H
 try dsimp only at H
 have A3 := zA A30
 clear A30
 have HF4 := zA H
 clear H
 go_enter Tryz.func29, Tryz.ntmps29
 go_upto_if 10 with (first | ((with_reducible refine gate_dst (N := 2) rfl ?_); refine nxX (N := 2) (cs := #[.slice A0_0 l0_0.length c0_0]) (t := 38) ?_; intro gb413 hg w5 hbox hb; have n0_ := nxH hb HB; have n1_ := zA (hbox); clear HB; have HB := n0_; have BK413 := n1_; clear n0_ n1_ ; clear hb hbox hg) | ((with_reducible refine gate_dst (N := 3) rfl ?_); refine nxX (N := 3) (cs := #[.slice A1_0 l1_0.length c1_0]) (t := 38) ?_; intro gb414 hg w6 hbox hb; have BK414 := zA (hbox); have NB413_414 := nxL BK413 hg; have NB414_413 := nxK BK413 hg; replace BK413 := nxB hb BK413; replace HB := nxH hb HB; clear hb hbox hg; have hnb7 := NB413_414.out; have hnc7 := NB414_413.out; have hcz8_0 : w6.cell? ⟨gb413, 0, none⟩ = some (.slice A0_0 l0_0.length c0_0) := (zK BK413.out 0).trans rfl; have hcz9_0 : w6.cell? ⟨gb414, 0, none⟩ = some (.slice A1_0 l1_0.length c1_0) := (zK BK414.out 0).trans rfl) | ((with_reducible refine gate_callee (f := 55) rfl ?_); refine goesL_ (some 9) rfl rfl Tryz.func55 (by kernel_rfl) rfl #[.slice A0_0 l0_0.length c0_0, .slice A1_0 l1_0.length c1_0] rfl (by (try simp only [zU, zV, zW]); first | done | rfl | (simp only [zR, zQ]; rfl)) ?_; (with_reducible refine (laws_eqIntSSS.calls k _ _ l0_0 _ _ l1_0 t415 _ ?side1 ?side2 ?side3 ?side4 A3.out).mono ?_); (case side1 => exact nxC HR0_0 HB); (case side2 => exact HC0_0.out); (case side3 => exact nxC HR1_0 HB); (case side4 => exact HC1_0.out); rintro e w' ⟨rfl, ⟨nd, rfl⟩⟩; refine ⟨_, rfl, ?_⟩))
 have H := HF4.out
 clear HF4
 by_cases c10 : t415 = true
 ·subst c10
  rw [if_pos rfl] at H
  obtain rfl := Option.some.inj H
  go_wp2
  go_ret
  exact ⟨rfl, nxD HB⟩
 replace c10 := Bool.eq_false_iff.mpr c10
 subst c10
 rw [if_neg (show ¬ (false = true) by decide)] at H
 obtain rfl := Option.some.inj H
 go_wp2
 go_ret
 exact ⟨rfl, nxD HB⟩
end Go.Proofs.YtilimpjcdeeaiaaGreat.G


namespace Go.Proofs.YtilimpjcdeeaiaaGreat.G
open Go.RowKit Go.Proofs.YtilimpjcdeeaiaaGreatW.PrintWords Go.Proofs.YtilimpjcdeeaiaaGreatW.PrintLast Go.Proofs.YtilimpjcdeeaiaaGreatW.PrintMore
attribute [local go_sem] max2_int min2_int max_two min_two max_three min_three max_four min_four   -- for this text's walks alone
def laws_szIntS.f (l0 : List Int) (a1 : Int) : Option (Int) := if (wrap64 (a1 - (l0.length : Int))) < 0 then (some (-1)) else (some (wrap64 (a1 - (l0.length : Int))))
set_option maxHeartbeats 8000000 in
set_option maxRecDepth 100000 in
theorem laws_szIntS.calls (A0 : Option Addr) (c0 : Nat) (l0 : List Int) (a1 : Int) (r : Int) (w : World) (hr0 : Kd.C (Kd.int .i64) w A0 l0.length l0) (hc0 : l0.length ≤ c0) (h : laws_szIntS.f l0 a1 = some r) :
  Calls Tryz.prog 33 #[.slice A0 l0.length c0, .int .i64 a1] w fun e w' => e = .returned (.int .i64 r) ∧ Drawn0 w w' := by
 have HR0 := zA hr0
 have HC0 := zA hc0
 clear hr0 hc0
 have H : (if (wrap64 (a1 - (l0.length : Int))) < 0 then (some (-1)) else (some (wrap64 (a1 - (l0.length : Int))))) = some r := h
 clear h
 by_cases c3 : (wrap64 (a1 - (l0.length : Int))) < 0
 ·rw [if_pos c3] at H
  have c3b0 := zT c3
  clear c3
  obtain rfl := Option.some.inj H
  go_enter Tryz.func33, Tryz.ntmps33
  go_wp2
  go_ret
  exact ⟨by first | rfl | (simp; done) | (simp [*]; done), by repeat (first | exact Drawn0.refl _ | apply Drawn0.step)⟩
 rw [if_neg c3] at H
 have c3b0 := decide_eq_false c3
 clear c3
 obtain rfl := Option.some.inj H
 go_enter Tryz.func33, Tryz.ntmps33
 go_wp2
 go_ret
 exact ⟨by first | rfl | (simp; done) | (simp [*]; done), by repeat (first | exact Drawn0.refl _ | apply Drawn0.step)⟩
end Go.Proofs.YtilimpjcdeeaiaaGreat.G


namespace Go.Proofs.YtilimpjcdeeaiaaGreat.G
open Go.RowKit Go.Proofs.YtilimpjcdeeaiaaGreatW.PrintWords Go.Proofs.YtilimpjcdeeaiaaGreatW.PrintLast Go.Proofs.YtilimpjcdeeaiaaGreatW.PrintMore
attribute [local go_sem] max2_int min2_int max_two min_two max_three min_three max_four min_four   -- for this text's walks alone
def laws_szIntSS.l0 : Nat → List (List Int) → Int → Int → Option (Int)
 | 0, _, _, _ => none
 | k + 1, x0, x1, x5 => if x5 < (x0.length : Int) then (if 0 ≤ x5 then ((laws_szIntS.f (rd_L2 x0 x5) x1).bind fun t104 => (if t104 < 0 then (some (-1)) else (laws_szIntSS.l0 k x0 t104 (wrap64 (x5 + 1))))) else (none)) else (some x1)
def laws_szIntSS.f (k : Nat) (l0 : List (List Int)) (a1 : Int) : Option (Int) := if (wrap64 (a1 - (l0.length : Int))) < 0 then (some (-1)) else (laws_szIntSS.l0 k l0 (wrap64 (a1 - (l0.length : Int))) 0)
set_option maxHeartbeats 8000000 in
set_option maxRecDepth 100000 in
theorem laws_szIntSS.calls (k : Nat) (A0 : Option Addr) (c0 : Nat) (l0 : List (List Int)) (a1 : Int) (r : Int) (w : World) (hr0 : Kd.C (Kd.slice 3 (Kd.int .i64)) w A0 l0.length l0) (hc0 : l0.length ≤ c0) (h : laws_szIntSS.f k l0 a1 = some r) :
  Calls Tryz.prog 10 #[.slice A0 l0.length c0, .int .i64 a1] w fun e w' => e = .returned (.int .i64 r) ∧ Drawn0 w w' := by
 have HR0 := zA hr0
 have HC0 := zA hc0
 clear hr0 hc0
 have H : (if (wrap64 (a1 - (l0.length : Int))) < 0 then (some (-1)) else (laws_szIntSS.l0 k l0 (wrap64 (a1 - (l0.length : Int))) 0)) = some r := h
 clear h
 by_cases c3 : (wrap64 (a1 - (l0.length : Int))) < 0
 ·rw [if_pos c3] at H
  have c3b0 := zT c3
  clear c3
  obtain rfl := Option.some.inj H
  go_enter Tryz.func10, Tryz.ntmps10
  go_wp2
  go_ret
  exact ⟨by first | rfl | (simp; done) | (simp [*]; done), by repeat (first | exact Drawn0.refl _ | apply Drawn0.step)⟩
 rw [if_neg c3] at H
 have c3b0 := decide_eq_false c3
 clear c3
 have H' := zA H
 clear H
 go_enter Tryz.func10, Tryz.ntmps10
 go_wp2
 go_loopg [1, 5] k (fun kq v1 v5 w' => ∃ (x1_1 : Int) (x5_1 : Int), v1 = .int .i64 x1_1 ∧ v5 = .int .i64 x5_1 ∧ Aside0 (laws_szIntSS.l0 kq l0 x1_1 x5_1 = some r) ∧ Aside0 (kq ≤ k) ∧ Drawn0 w w')
 case atStart => exact ⟨(wrap64 (a1 - (l0.length : Int))), (0), rfl, rfl, H', ⟨Nat.le_refl _⟩, by repeat (first | exact Drawn0.refl _ | apply Drawn0.step)⟩
 case round =>
  clear H'
  obtain ⟨x1_1, x5_1, rfl, rfl, HA, HK1, ⟨m1, rfl⟩⟩ := hrel
  cases gk with
  | zero => exact absurd HA.out (by simp [laws_szIntSS.l0])
  | succ k1 =>
   have H := HA.out
   clear HA
   simp only [laws_szIntSS.l0] at H
   by_cases c4 : x5_1 < (l0.length : Int)
   rotate_left
   ·rw [if_neg c4] at H
    have c4b0 := decide_eq_false c4
    clear c4
    obtain rfl := Option.some.inj H
    go_wp2
    go_ret
    exact ⟨by first | rfl | (simp; done) | (simp [*]; done), by repeat (first | exact Drawn0.refl _ | apply Drawn0.step)⟩
   rw [if_pos c4] at H
   have c4b0 := zT c4
   clear c4
   by_cases c5 : 0 ≤ x5_1
   rotate_left
   ·rw [if_neg c5] at H
    exact absurd H (by simp)
   rw [if_pos c5] at H
   have c5b0 := zT c5
   clear c5
   replace H := Option.bind_eq_some_iff.mp H
   obtain ⟨t104, A60, H⟩ := H
   try dsimp only at H
   have A6 := zA A60
   clear A60
   have HF7 := zA H
   clear H
   have p103 : 0 ≤ (x5_1 : Int) := zI (by first | (with_reducible assumption) | assumption)
   have q103 : x5_1 < (l0.length : Int) := zI (by first | (with_reducible assumption) | assumption)
   obtain ⟨ad103, A103_0, c103_0, e103, hx103_0, hl103_0, hi103_0⟩ := at_L2 HR0.out x5_1 p103 q103
   cases e103
   have HR103_0 := zA hi103_0
   have HC103_0 := zA hl103_0
   clear hi103_0 hl103_0
   replace p103 := eq_true p103
   replace q103 := eq_true q103
   go_upto_if 25 with (first | ((with_reducible refine gate_callee (f := 33) rfl ?_); refine goesL_ (some 23) rfl rfl Tryz.func33 (by kernel_rfl) rfl #[.slice A103_0 (rd_L2 l0 x5_1).length c103_0, .int .i64 x1_1] rfl (by (try simp only [zU, zV, zW]); first | done | rfl | (simp only [zR, zQ]; rfl)) ?_; (with_reducible refine (laws_szIntS.calls _ _ (rd_L2 l0 x5_1) x1_1 t104 _ ?side1 ?side2 A6.out).mono ?_); (case side1 => repeat (first | exact HR103_0.out | (with_reducible refine yH ?_ _) | (with_reducible refine yF ?_ _) | (with_reducible refine yG ?_))); (case side2 => exact HC103_0.out); rintro e w' ⟨rfl, ⟨nd, rfl⟩⟩; refine ⟨_, rfl, ?_⟩))
   have H := HF7.out
   clear HF7
   by_cases c8 : t104 < 0
   ·rw [if_pos c8] at H
    have c8b0 := zT c8
    clear c8
    (first | rw [c8b0] | rw [c8b1] | (simp only [i64_w, i32_w]; first | rw [c8b0] | rw [c8b1]) | skip)
    obtain rfl := Option.some.inj H
    go_wp2
    go_ret
    exact ⟨by first | rfl | (simp; done) | (simp [*]; done), by repeat (first | exact Drawn0.refl _ | apply Drawn0.step)⟩
   rw [if_neg c8] at H
   have c8b0 := decide_eq_false c8
   clear c8
   (first | rw [c8b0] | rw [c8b1] | (simp only [i64_w, i32_w]; first | rw [c8b0] | rw [c8b1]) | skip)
   have H' := zA H
   clear H
   go_wp2
   go_roundg k1
   case measure => have := HK1.out; omega
   case rel => exact ⟨(t104), (wrap64 (x5_1 + 1)), rfl, rfl, H', ⟨by have := HK1.out; omega⟩, by repeat (first | exact Drawn0.refl _ | apply Drawn0.step)⟩
theorem laws_szIntS.val (l : List Int) (a : Int) (h0 : 0 ≤ a) (h1 : a ≤ 1048576) (hl : l.length ≤ 9223372036854775807) : ∃ r, laws_szIntS.f l a = some r ∧ r ≤ a ∧ (0 ≤ r → (l.length : Int) ≤ a) := by
 unfold laws_szIntS.f
 rw [wrap_in _ (by omega) (by omega)]
 by_cases h : a - (l.length : Int) < 0
 ·exact ⟨_, if_pos h, by omega, by omega⟩
 exact ⟨_, if_neg h, by omega, by omega⟩
theorem laws_szIntSS.ev (l : List (List Int)) (a : Int) (h0 : 0 ≤ a) (h1 : a ≤ 1048576) (hl : l.length ≤ 9223372036854775807) (hx : ∀ x ∈ l, x.length ≤ 9223372036854775807) : ∃ r, Ev (fun k => laws_szIntSS.f k l a) r ∧ r ≤ a ∧ (0 ≤ r → l.length ≤ 1048576 ∧ ∀ x ∈ l, x.length ≤ 1048576) := by
 unfold laws_szIntSS.f
 rw [wrap_in _ (by omega) (by omega)]
 by_cases h : a - (l.length : Int) < 0
 ·exact ⟨_, Ev.ip h (Ev.now _), by omega, by omega⟩
 have key : ∀ d i : Nat, ∀ b : Int, l.length - i = d → i ≤ l.length → 0 ≤ b → b ≤ 1048576 → ∃ r, Ev (fun k => laws_szIntSS.l0 k l b (i : Int)) r ∧ r ≤ b ∧ (0 ≤ r → ∀ x ∈ l.drop i, x.length ≤ 1048576) := by
  intro d
  induction d with
  | zero =>
   intro i b hd hi hb0 hb1
   exact ⟨b, Ev.step (fun _ => by rw [laws_szIntSS.l0]) (Ev.ng (by omega) (Ev.now _)), by omega, fun _ x hx => by rw [List.drop_of_length_le (by omega)] at hx; cases hx⟩
  | succ d ih =>
   intro i b hd hi hb0 hb1
   have hlt : i < l.length := by omega
   obtain ⟨q, hq, hqb, hq0⟩ := laws_szIntS.val l[i] b hb0 hb1 (hx _ (List.getElem_mem _))
   by_cases hneg : q < 0
   ·refine ⟨-1, Ev.step (fun _ => by rw [laws_szIntSS.l0]) (Ev.ip (by omega) (Ev.ip (by omega) ?_)), by omega, by omega⟩
    rw [show rd_L2 l (i : Int) = l[i] by simp [rd_L2, hlt]]
    exact Ev.bind (Ev.c hq) (Ev.ip hneg (Ev.now _))
   ·obtain ⟨r, hr, hrb, hr0⟩ := ih (i + 1) q (by omega) (by omega) (by omega) (by omega)
    refine ⟨r, Ev.step (fun _ => by rw [laws_szIntSS.l0]) (Ev.ip (by omega) (Ev.ip (by omega) ?_)), by omega, fun h0r x hxm => ?_⟩
    ·rw [show rd_L2 l (i : Int) = l[i] by simp [rd_L2, hlt], wrap_succ i (by omega)]
     exact Ev.bind (Ev.c hq) (Ev.ng hneg hr)
    ·rw [List.drop_eq_getElem_cons hlt] at hxm
     rcases List.mem_cons.1 hxm with rfl | hxm
     ·have := hq0 (by omega); omega
     ·exact hr0 h0r x hxm
 obtain ⟨r, hr, hrb, hr0⟩ := key _ 0 (a - l.length) rfl (by omega) (by omega) (by omega)
 refine ⟨r, Ev.ng h hr, by omega, fun h0r => ⟨by omega, ?_⟩⟩
 simpa using hr0 h0r
end Go.Proofs.YtilimpjcdeeaiaaGreat.G


namespace Go.Proofs.YtilimpjcdeeaiaaGreat.G
open Go.RowKit Go.Proofs.YtilimpjcdeeaiaaGreatW.PrintWords Go.Proofs.YtilimpjcdeeaiaaGreatW.PrintLast Go.Proofs.YtilimpjcdeeaiaaGreatW.PrintMore
attribute [local go_sem] max2_int min2_int max_two min_two max_three min_three max_four min_four   -- for this text's walks alone
def laws_szIntSSS.l0 : Nat → List (List (List Int)) → Int → Int → Option (Int)
 | 0, _, _, _ => none
 | k + 1, x0, x1, x5 => if x5 < (x0.length : Int) then (if 0 ≤ x5 then ((laws_szIntSS.f k (rd_L3 x0 x5) x1).bind fun t106 => (if t106 < 0 then (some (-1)) else (laws_szIntSSS.l0 k x0 t106 (wrap64 (x5 + 1))))) else (none)) else (some x1)
def laws_szIntSSS.f (k : Nat) (l0 : List (List (List Int))) (a1 : Int) : Option (Int) := if (wrap64 (a1 - (l0.length : Int))) < 0 then (some (-1)) else (laws_szIntSSS.l0 k l0 (wrap64 (a1 - (l0.length : Int))) 0)
set_option maxHeartbeats 8000000 in
set_option maxRecDepth 100000 in
theorem laws_szIntSSS.calls (k : Nat) (A0 : Option Addr) (c0 : Nat) (l0 : List (List (List Int))) (a1 : Int) (r : Int) (w : World) (hr0 : Kd.C (Kd.slice 66 (Kd.slice 3 (Kd.int .i64))) w A0 l0.length l0) (hc0 : l0.length ≤ c0) (h : laws_szIntSSS.f k l0 a1 = some r) :
  Calls Tryz.prog 34 #[.slice A0 l0.length c0, .int .i64 a1] w fun e w' => e = .returned (.int .i64 r) ∧ Drawn0 w w' := by
 have HR0 := zA hr0
 have HC0 := zA hc0
 clear hr0 hc0
 have H : (if (wrap64 (a1 - (l0.length : Int))) < 0 then (some (-1)) else (laws_szIntSSS.l0 k l0 (wrap64 (a1 - (l0.length : Int))) 0)) = some r := h
 clear h
 by_cases c3 : (wrap64 (a1 - (l0.length : Int))) < 0
 ·rw [if_pos c3] at H
  have c3b0 := zT c3
  clear c3
  obtain rfl := Option.some.inj H
  go_enter Tryz.func34, Tryz.ntmps34
  go_wp2
  go_ret
  exact ⟨by first | rfl | (simp; done) | (simp [*]; done), by repeat (first | exact Drawn0.refl _ | apply Drawn0.step)⟩
 rw [if_neg c3] at H
 have c3b0 := decide_eq_false c3
 clear c3
 have H' := zA H
 clear H
 go_enter Tryz.func34, Tryz.ntmps34
 go_wp2
 go_loopg [1, 5] k (fun kq v1 v5 w' => ∃ (x1_1 : Int) (x5_1 : Int), v1 = .int .i64 x1_1 ∧ v5 = .int .i64 x5_1 ∧ Aside0 (laws_szIntSSS.l0 kq l0 x1_1 x5_1 = some r) ∧ Aside0 (kq ≤ k) ∧ Drawn0 w w')
 case atStart => exact ⟨(wrap64 (a1 - (l0.length : Int))), (0), rfl, rfl, H', ⟨Nat.le_refl _⟩, by repeat (first | exact Drawn0.refl _ | apply Drawn0.step)⟩
 case round =>
  clear H'
  obtain ⟨x1_1, x5_1, rfl, rfl, HA, HK1, ⟨m1, rfl⟩⟩ := hrel
  cases gk with
  | zero => exact absurd HA.out (by simp [laws_szIntSSS.l0])
  | succ k1 =>
   have H := HA.out
   clear HA
   simp only [laws_szIntSSS.l0] at H
   by_cases c4 : x5_1 < (l0.length : Int)
   rotate_left
   ·rw [if_neg c4] at H
    have c4b0 := decide_eq_false c4
    clear c4
    obtain rfl := Option.some.inj H
    go_wp2
    go_ret
    exact ⟨by first | rfl | (simp; done) | (simp [*]; done), by repeat (first | exact Drawn0.refl _ | apply Drawn0.step)⟩
   rw [if_pos c4] at H
   have c4b0 := zT c4
   clear c4
   by_cases c5 : 0 ≤ x5_1
   rotate_left
   ·rw [if_neg c5] at H
    exact absurd H (by simp)
   rw [if_pos c5] at H
   have c5b0 := zT c5
   clear c5
   replace H := Option.bind_eq_some_iff.mp H
   obtain ⟨t106, A60, H⟩ := H
   try dsimp only at H
   have A6 := zA A60
   clear A60
   have HF7 := zA H
   clear H
   have p105 : 0 ≤ (x5_1 : Int) := zI (by first | (with_reducible assumption) | assumption)
   have q105 : x5_1 < (l0.length : Int) := zI (by first | (with_reducible assumption) | assumption)
   obtain ⟨ad105, A105_0, c105_0, e105, hx105_0, hl105_0, hi105_0⟩ := at_L3 HR0.out x5_1 p105 q105
   cases e105
   have HR105_0 := zA hi105_0
   have HC105_0 := zA hl105_0
   clear hi105_0 hl105_0
   replace p105 := eq_true p105
   replace q105 := eq_true q105
   go_upto_if 25 with (first | ((with_reducible refine gate_callee (f := 10) rfl ?_); refine goesL_ (some 23) rfl rfl Tryz.func10 (by kernel_rfl) rfl #[.slice A105_0 (rd_L3 l0 x5_1).length c105_0, .int .i64 x1_1] rfl (by (try simp only [zU, zV, zW]); first | done | rfl | (simp only [zR, zQ]; rfl)) ?_; (with_reducible refine (laws_szIntSS.calls k1 _ _ (rd_L3 l0 x5_1) x1_1 t106 _ ?side1 ?side2 A6.out).mono ?_); (case side1 => repeat (first | exact HR105_0.out | (with_reducible refine yH ?_ _) | (with_reducible refine yF ?_ _) | (with_reducible refine yG ?_))); (case side2 => exact HC105_0.out); rintro e w' ⟨rfl, ⟨nd, rfl⟩⟩; refine ⟨_, rfl, ?_⟩))
   have H := HF7.out
   clear HF7
   by_cases c8 : t106 < 0
   ·rw [if_pos c8] at H
    have c8b0 := zT c8
    clear c8
    (first | rw [c8b0] | rw [c8b1] | (simp only [i64_w, i32_w]; first | rw [c8b0] | rw [c8b1]) | skip)
    obtain rfl := Option.some.inj H
    go_wp2
    go_ret
    exact ⟨by first | rfl | (simp; done) | (simp [*]; done), by repeat (first | exact Drawn0.refl _ | apply Drawn0.step)⟩
   rw [if_neg c8] at H
   have c8b0 := decide_eq_false c8
   clear c8
   (first | rw [c8b0] | rw [c8b1] | (simp only [i64_w, i32_w]; first | rw [c8b0] | rw [c8b1]) | skip)
   have H' := zA H
   clear H
   go_wp2
   go_roundg k1
   case measure => have := HK1.out; omega
   case rel => exact ⟨(t106), (wrap64 (x5_1 + 1)), rfl, rfl, H', ⟨by have := HK1.out; omega⟩, by repeat (first | exact Drawn0.refl _ | apply Drawn0.step)⟩
theorem laws_szIntSSS.ev (l : List (List (List Int))) (a : Int) (h0 : 0 ≤ a) (h1 : a ≤ 1048576) (hl : l.length ≤ 9223372036854775807) (hx : ∀ x ∈ l, x.length ≤ 9223372036854775807 ∧ ∀ y ∈ x, y.length ≤ 9223372036854775807) : ∃ r, Ev (fun k => laws_szIntSSS.f k l a) r ∧ r ≤ a ∧ (0 ≤ r → l.length ≤ 1048576 ∧ ∀ x ∈ l, x.length ≤ 1048576 ∧ ∀ y ∈ x, y.length ≤ 1048576) := by
 unfold laws_szIntSSS.f
 rw [wrap_in _ (by omega) (by omega)]
 by_cases h : a - (l.length : Int) < 0
 ·exact ⟨_, Ev.ip h (Ev.now _), by omega, by omega⟩
 have key : ∀ d i : Nat, ∀ b : Int, l.length - i = d → i ≤ l.length → 0 ≤ b → b ≤ 1048576 → ∃ r, Ev (fun k => laws_szIntSSS.l0 k l b (i : Int)) r ∧ r ≤ b ∧ (0 ≤ r → ∀ x ∈ l.drop i, x.length ≤ 1048576 ∧ ∀ y ∈ x, y.length ≤ 1048576) := by
  intro d
  induction d with
  | zero =>
   intro i b hd hi hb0 hb1
   exact ⟨b, Ev.step (fun _ => by rw [laws_szIntSSS.l0]) (Ev.ng (by omega) (Ev.now _)), by omega, fun _ x hx => by rw [List.drop_of_length_le (by omega)] at hx; cases hx⟩
  | succ d ih =>
   intro i b hd hi hb0 hb1
   have hlt : i < l.length := by omega
   have hxi := hx _ (List.getElem_mem hlt)
   obtain ⟨q, hq, hqb, hq0⟩ := laws_szIntSS.ev l[i] b hb0 hb1 hxi.1 hxi.2
   by_cases hneg : q < 0
   ·refine ⟨-1, Ev.step (fun _ => by rw [laws_szIntSSS.l0]) (Ev.ip (by omega) (Ev.ip (by omega) ?_)), by omega, by omega⟩
    rw [show rd_L3 l (i : Int) = l[i] by simp [rd_L3, hlt]]
    exact Ev.bind hq (Ev.ip hneg (Ev.now _))
   ·obtain ⟨r, hr, hrb, hr0⟩ := ih (i + 1) q (by omega) (by omega) (by omega) (by omega)
    refine ⟨r, Ev.step (fun _ => by rw [laws_szIntSSS.l0]) (Ev.ip (by omega) (Ev.ip (by omega) ?_)), by omega, fun h0r x hxm => ?_⟩
    ·rw [show rd_L3 l (i : Int) = l[i] by simp [rd_L3, hlt], wrap_succ i (by omega)]
     exact Ev.bind hq (Ev.ng hneg hr)
    ·rw [List.drop_eq_getElem_cons hlt] at hxm
     rcases List.mem_cons.1 hxm with rfl | hxm
     ·exact hq0 (by omega)
     ·exact hr0 h0r x hxm
 obtain ⟨r, hr, hrb, hr0⟩ := key _ 0 (a - l.length) rfl (by omega) (by omega) (by omega)
 refine ⟨r, Ev.ng h hr, by omega, fun h0r => ⟨by omega, ?_⟩⟩
 simpa using hr0 h0r
end Go.Proofs.YtilimpjcdeeaiaaGreat.G


namespace Go.Proofs.YtilimpjcdeeaiaaGreat.G
open Go.RowKit Go.Proofs.YtilimpjcdeeaiaaGreatW.PrintWords Go.Proofs.YtilimpjcdeeaiaaGreatW.PrintLast Go.Proofs.YtilimpjcdeeaiaaGreatW.PrintMore
attribute [local go_sem] max2_int min2_int max_two min_two max_three min_three max_four min_four   -- for this text's walks alone
def laws_szCoefs.f (k : Nat) (l0_0 : List (List (List Int))) (a1 : Int) : Option (Int) := (laws_szIntSSS.f k l0_0 a1).bind fun t108 => (if t108 < 0 then (some (-1)) else (some t108))
set_option maxHeartbeats 8000000 in
set_option maxRecDepth 100000 in
theorem laws_szCoefs.calls (k : Nat) (A0_0 : Option Addr) (c0_0 : Nat) (l0_0 : List (List (List Int))) (a1 : Int) (r : Int) (w : World) (hr0_0 : Kd.C (Kd.slice 66 (Kd.slice 3 (Kd.int .i64))) w A0_0 l0_0.length l0_0) (hc0_0 : l0_0.length ≤ c0_0) (h : laws_szCoefs.f k l0_0 a1 = some r) :
  Calls Tryz.prog 11 #[.agg #[.slice A0_0 l0_0.length c0_0], .int .i64 a1] w fun e w' => e = .returned (.int .i64 r) ∧ Below w.heap.size w w' := by
 have hu28 := Tryz.underlying28
 have HR0_0 := zA hr0_0
 have HC0_0 := zA hc0_0
 clear hr0_0 hc0_0
 have HB := zA (Below.refl w.heap.size w)
 have H : ((laws_szIntSSS.f k l0_0 a1).bind fun t108 => (if t108 < 0 then (some (-1)) else (some t108))) = some r := h
 clear h
 replace H := Option.bind_eq_some_iff.mp H
 obtain ⟨t108, A30, H⟩ := H
 try dsimp only at H
 have A3 := zA A30
 clear A30
 have HF4 := zA H
 clear H
 go_enter Tryz.func11, Tryz.ntmps11
 go_upto_if 10 with (first | ((with_reducible refine gate_dst (N := 2) rfl ?_); refine nxX (N := 2) (cs := #[.slice A0_0 l0_0.length c0_0]) (t := 28) ?_; intro gb107 hg w5 hbox hb; have n0_ := nxH hb HB; have n1_ := zA (hbox); clear HB; have HB := n0_; have BK107 := n1_; clear n0_ n1_ ; clear hb hbox hg; have hcz6_0 : w5.cell? ⟨gb107, 0, none⟩ = some (.slice A0_0 l0_0.length c0_0) := (zK BK107.out 0).trans rfl) | ((with_reducible refine gate_callee (f := 34) rfl ?_); refine goesL_ (some 8) rfl rfl Tryz.func34 (by kernel_rfl) rfl #[.slice A0_0 l0_0.length c0_0, .int .i64 a1] rfl (by (try simp only [zU, zV, zW]); first | done | rfl | (simp only [zR, zQ]; rfl)) ?_; (with_reducible refine (laws_szIntSSS.calls k _ _ l0_0 a1 t108 _ ?side1 ?side2 A3.out).mono ?_); (case side1 => exact nxC HR0_0 HB); (case side2 => exact HC0_0.out); rintro e w' ⟨rfl, ⟨nd, rfl⟩⟩; refine ⟨_, rfl, ?_⟩))
 have H := HF4.out
 clear HF4
 by_cases c7 : t108 < 0
 ·rw [if_pos c7] at H
  have c7b0 := zT c7
  clear c7
  (first | rw [c7b0] | rw [c7b1] | (simp only [i64_w, i32_w]; first | rw [c7b0] | rw [c7b1]) | skip)
  obtain rfl := Option.some.inj H
  go_wp2
  go_ret
  exact ⟨rfl, nxD HB⟩
 rw [if_neg c7] at H
 have c7b0 := decide_eq_false c7
 clear c7
 (first | rw [c7b0] | rw [c7b1] | (simp only [i64_w, i32_w]; first | rw [c7b0] | rw [c7b1]) | skip)
 obtain rfl := Option.some.inj H
 go_wp2
 go_ret
 exact ⟨rfl, nxD HB⟩
end Go.Proofs.YtilimpjcdeeaiaaGreat.G


namespace Go.Proofs.YtilimpjcdeeaiaaGreat.G
open Go.RowKit Go.Proofs.YtilimpjcdeeaiaaGreatW.PrintWords Go.Proofs.YtilimpjcdeeaiaaGreatW.PrintLast Go.Proofs.YtilimpjcdeeaiaaGreatW.PrintMore
attribute [local go_sem] max2_int min2_int max_two min_two max_three min_three max_four min_four   -- for this text's walks alone
def laws_szScan.f (l0_0 : List Int) (a0_1 : Int) (a0_2 : Int) (a0_3 : Int) (a0_4 : Int) (a1 : Int) : Option (Int) := (laws_szIntS.f l0_0 a1).bind fun t110 => (if t110 < 0 then (some (-1)) else (some t110))
set_option maxHeartbeats 8000000 in
set_option maxRecDepth 100000 in
theorem laws_szScan.calls (A0_0 : Option Addr) (c0_0 : Nat) (l0_0 : List Int) (a0_1 : Int) (a0_2 : Int) (a0_3 : Int) (a0_4 : Int) (a1 : Int) (r : Int) (w : World) (hr0_0 : Kd.C (Kd.int .i64) w A0_0 l0_0.length l0_0) (hc0_0 : l0_0.length ≤ c0_0) (h : laws_szScan.f l0_0 a0_1 a0_2 a0_3 a0_4 a1 = some r) :
  Calls Tryz.prog 35 #[.agg #[.slice A0_0 l0_0.length c0_0, .int .i64 a0_1, .int .i64 a0_2, .int .i64 a0_3, .int .i64 a0_4], .int .i64 a1] w fun e w' => e = .returned (.int .i64 r) ∧ Below w.heap.size w w' := by
 have hu70 := Tryz.underlying70
 have HR0_0 := zA hr0_0
 have HC0_0 := zA hc0_0
 clear hr0_0 hc0_0
 have HB := zA (Below.refl w.heap.size w)
 have H : ((laws_szIntS.f l0_0 a1).bind fun t110 => (if t110 < 0 then (some (-1)) else (some t110))) = some r := h
 clear h
 replace H := Option.bind_eq_some_iff.mp H
 obtain ⟨t110, A30, H⟩ := H
 try dsimp only at H
 have A3 := zA A30
 clear A30
 have HF4 := zA H
 clear H
 go_enter Tryz.func35, Tryz.ntmps35
 go_upto_if 10 with (first | ((with_reducible refine gate_dst (N := 2) rfl ?_); refine nxX (N := 2) (cs := #[.slice A0_0 l0_0.length c0_0, .int .i64 a0_1, .int .i64 a0_2, .int .i64 a0_3, .int .i64 a0_4]) (t := 70) ?_; intro gb109 hg w5 hbox hb; have n0_ := nxH hb HB; have n1_ := zA (hbox); clear HB; have HB := n0_; have BK109 := n1_; clear n0_ n1_ ; clear hb hbox hg; obtain ⟨hcz6_0, hcz6_1, hcz6_2, hcz6_3, hcz6_4⟩ := cz5 BK109) | ((with_reducible refine gate_callee (f := 33) rfl ?_); refine goesL_ (some 8) rfl rfl Tryz.func33 (by kernel_rfl) rfl #[.slice A0_0 l0_0.length c0_0, .int .i64 a1] rfl (by (try simp only [zU, zV, zW]); first | done | rfl | (simp only [zR, zQ]; rfl)) ?_; (with_reducible refine (laws_szIntS.calls _ _ l0_0 a1 t110 _ ?side1 ?side2 A3.out).mono ?_); (case side1 => exact nxC HR0_0 HB); (case side2 => exact HC0_0.out); rintro e w' ⟨rfl, ⟨nd, rfl⟩⟩; refine ⟨_, rfl, ?_⟩))
 have H := HF4.out
 clear HF4
 by_cases c7 : t110 < 0
 ·rw [if_pos c7] at H
  have c7b0 := zT c7
  clear c7
  (first | rw [c7b0] | rw [c7b1] | (simp only [i64_w, i32_w]; first | rw [c7b0] | rw [c7b1]) | skip)
  obtain rfl := Option.some.inj H
  go_wp2
  go_ret
  exact ⟨rfl, nxD HB⟩
 rw [if_neg c7] at H
 have c7b0 := decide_eq_false c7
 clear c7
 (first | rw [c7b0] | rw [c7b1] | (simp only [i64_w, i32_w]; first | rw [c7b0] | rw [c7b1]) | skip)
 obtain rfl := Option.some.inj H
 go_wp2
 go_ret
 exact ⟨rfl, nxD HB⟩
end Go.Proofs.YtilimpjcdeeaiaaGreat.G


namespace Go.Proofs.YtilimpjcdeeaiaaGreat.G
open Go.RowKit Go.Proofs.YtilimpjcdeeaiaaGreatW.PrintWords Go.Proofs.YtilimpjcdeeaiaaGreatW.PrintLast Go.Proofs.YtilimpjcdeeaiaaGreatW.PrintMore
attribute [local go_sem] max2_int min2_int max_two min_two max_three min_three max_four min_four   -- for this text's walks alone
def laws_szScanS.l0 : Nat → List (S70) → Int → Int → Option (Int)
 | 0, _, _, _ => none
 | k + 1, x0, x1, x5 => if x5 < (x0.length : Int) then (if 0 ≤ x5 then ((laws_szScan.f ((rd_T70 x0 x5).f0) ((rd_T70 x0 x5).f1) ((rd_T70 x0 x5).f2) ((rd_T70 x0 x5).f3) ((rd_T70 x0 x5).f4) x1).bind fun t112 => (if t112 < 0 then (some (-1)) else (laws_szScanS.l0 k x0 t112 (wrap64 (x5 + 1))))) else (none)) else (some x1)
def laws_szScanS.f (k : Nat) (l0 : List (S70)) (a1 : Int) : Option (Int) := if (wrap64 (a1 - (l0.length : Int))) < 0 then (some (-1)) else (laws_szScanS.l0 k l0 (wrap64 (a1 - (l0.length : Int))) 0)
set_option maxHeartbeats 8000000 in
set_option maxRecDepth 100000 in
theorem laws_szScanS.calls (k : Nat) (A0 : Option Addr) (c0 : Nat) (l0 : List (S70)) (a1 : Int) (r : Int) (w : World) (hr0 : Kd.C k70 w A0 l0.length l0) (hc0 : l0.length ≤ c0) (h : laws_szScanS.f k l0 a1 = some r) :
  Calls Tryz.prog 12 #[.slice A0 l0.length c0, .int .i64 a1] w fun e w' => e = .returned (.int .i64 r) ∧ Below w.heap.size w w' := by
 have hu70 := Tryz.underlying70
 have HR0 := zA hr0
 have HC0 := zA hc0
 clear hr0 hc0
 have HB := zA (Below.refl w.heap.size w)
 have H : (if (wrap64 (a1 - (l0.length : Int))) < 0 then (some (-1)) else (laws_szScanS.l0 k l0 (wrap64 (a1 - (l0.length : Int))) 0)) = some r := h
 clear h
 by_cases c3 : (wrap64 (a1 - (l0.length : Int))) < 0
 ·rw [if_pos c3] at H
  have c3b0 := zT c3
  clear c3
  obtain rfl := Option.some.inj H
  go_enter Tryz.func12, Tryz.ntmps12
  go_wp2
  go_ret
  exact ⟨rfl, nxD HB⟩
 rw [if_neg c3] at H
 have c3b0 := decide_eq_false c3
 clear c3
 have H' := zA H
 clear H
 go_enter Tryz.func12, Tryz.ntmps12
 go_wp2
 go_loopg [1, 5] k (fun kq v1 v5 w' => ∃ (x1_1 : Int) (x5_1 : Int), v1 = .int .i64 x1_1 ∧ v5 = .int .i64 x5_1 ∧ Aside0 (laws_szScanS.l0 kq l0 x1_1 x5_1 = some r) ∧ Aside0 (kq ≤ k) ∧ Aside0 (Below w.heap.size w w'))
 case atStart => exact ⟨(wrap64 (a1 - (l0.length : Int))), (0), rfl, rfl, H', ⟨Nat.le_refl _⟩, ⟨nxD HB⟩⟩
 case round =>
  clear H'
  obtain ⟨x1_1, x5_1, rfl, rfl, HA, HK1, HB⟩ := hrel
  cases gk with
  | zero => exact absurd HA.out (by simp [laws_szScanS.l0])
  | succ k1 =>
   have H := HA.out
   clear HA
   simp only [laws_szScanS.l0] at H
   by_cases c4 : x5_1 < (l0.length : Int)
   rotate_left
   ·rw [if_neg c4] at H
    have c4b0 := decide_eq_false c4
    clear c4
    obtain rfl := Option.some.inj H
    go_wp2
    go_ret
    exact ⟨rfl, nxD HB⟩
   rw [if_pos c4] at H
   have c4b0 := zT c4
   clear c4
   by_cases c5 : 0 ≤ x5_1
   rotate_left
   ·rw [if_neg c5] at H
    exact absurd H (by simp)
   rw [if_pos c5] at H
   have c5b0 := zT c5
   clear c5
   replace H := Option.bind_eq_some_iff.mp H
   obtain ⟨t112, A60, H⟩ := H
   try dsimp only at H
   have A6 := zA A60
   clear A60
   have HF7 := zA H
   clear H
   have p111 : 0 ≤ (x5_1 : Int) := zI (by first | (with_reducible assumption) | assumption)
   have q111 : x5_1 < (l0.length : Int) := zI (by first | (with_reducible assumption) | assumption)
   obtain ⟨ad111, A111_0, c111_0, e111, hx111_0, hx111_1, hx111_2, hx111_3, hx111_4, hl111_0, hi111_0⟩ := at_T70 HR0.out x5_1 p111 q111
   cases e111
   replace hx111_0 := (HB.out.cell (World.block_lt_of_cell? w _ hx111_0)).trans hx111_0
   replace hx111_1 := (HB.out.cell (World.block_lt_of_cell? w _ hx111_1)).trans hx111_1
   replace hx111_2 := (HB.out.cell (World.block_lt_of_cell? w _ hx111_2)).trans hx111_2
   replace hx111_3 := (HB.out.cell (World.block_lt_of_cell? w _ hx111_3)).trans hx111_3
   replace hx111_4 := (HB.out.cell (World.block_lt_of_cell? w _ hx111_4)).trans hx111_4
   have HR111_0 := zA hi111_0
   have HC111_0 := zA hl111_0
   clear hi111_0 hl111_0
   replace p111 := eq_true p111
   replace q111 := eq_true q111
   go_upto_if 25 with (first | ((with_reducible refine gate_callee (f := 35) rfl ?_); refine goesL_ (some 23) rfl rfl Tryz.func35 (by kernel_rfl) rfl #[.agg #[.slice A111_0 ((rd_T70 l0 x5_1).f0).length c111_0, .int .i64 ((rd_T70 l0 x5_1).f1), .int .i64 ((rd_T70 l0 x5_1).f2), .int .i64 ((rd_T70 l0 x5_1).f3), .int .i64 ((rd_T70 l0 x5_1).f4)], .int .i64 x1_1] rfl (by (try simp only [zU, zV, zW]); first | done | rfl | (simp only [zR, zQ]; rfl)) ?_; (with_reducible refine (laws_szScan.calls _ _ ((rd_T70 l0 x5_1).f0) ((rd_T70 l0 x5_1).f1) ((rd_T70 l0 x5_1).f2) ((rd_T70 l0 x5_1).f3) ((rd_T70 l0 x5_1).f4) x1_1 t112 _ ?side1 ?side2 A6.out).mono ?_); (case side1 => exact nxC HR111_0 HB); (case side2 => exact HC111_0.out); rintro e w8 ⟨rfl, hb⟩; refine ⟨_, rfl, ?_⟩; replace HB := nxH hb HB; (try clear hb); (try clear hb2); (try clear hk); (try clear hi)))
   have H := HF7.out
   clear HF7
   by_cases c9 : t112 < 0
   ·rw [if_pos c9] at H
    have c9b0 := zT c9
    clear c9
    (first | rw [c9b0] | rw [c9b1] | (simp only [i64_w, i32_w]; first | rw [c9b0] | rw [c9b1]) | skip)
    obtain rfl := Option.some.inj H
    go_wp2
    go_ret
    exact ⟨rfl, nxD HB⟩
   rw [if_neg c9] at H
   have c9b0 := decide_eq_false c9
   clear c9
   (first | rw [c9b0] | rw [c9b1] | (simp only [i64_w, i32_w]; first | rw [c9b0] | rw [c9b1]) | skip)
   have H' := zA H
   clear H
   go_wp2
   go_roundg k1
   case measure => have := HK1.out; omega
   case rel => exact ⟨(t112), (wrap64 (x5_1 + 1)), rfl, rfl, H', ⟨by have := HK1.out; omega⟩, ⟨nxD HB⟩⟩
theorem laws_szScanS.ev (l : List S70) (a : Int) (h0 : 0 ≤ a) (h1 : a ≤ 1048576) (hl : l.length ≤ 9223372036854775807) (hx : ∀ x ∈ l, x.f0.length ≤ 9223372036854775807) : ∃ r, Ev (fun k => laws_szScanS.f k l a) r ∧ r ≤ a ∧ (0 ≤ r → l.length ≤ 1048576 ∧ ∀ x ∈ l, x.f0.length ≤ 1048576) := by
 unfold laws_szScanS.f
 rw [wrap_in _ (by omega) (by omega)]
 by_cases h : a - (l.length : Int) < 0
 ·exact ⟨_, Ev.ip h (Ev.now _), by omega, by omega⟩
 have key : ∀ d i : Nat, ∀ b : Int, l.length - i = d → i ≤ l.length → 0 ≤ b → b ≤ 1048576 → ∃ r, Ev (fun k => laws_szScanS.l0 k l b (i : Int)) r ∧ r ≤ b ∧ (0 ≤ r → ∀ x ∈ l.drop i, x.f0.length ≤ 1048576) := by
  intro d
  induction d with
  | zero =>
   intro i b hd hi hb0 hb1
   exact ⟨b, Ev.step (fun _ => by rw [laws_szScanS.l0]) (Ev.ng (by omega) (Ev.now _)), by omega, fun _ x hx => by rw [List.drop_of_length_le (by omega)] at hx; cases hx⟩
  | succ d ih =>
   intro i b hd hi hb0 hb1
   have hlt : i < l.length := by omega
   have er : rd_T70 l (i : Int) = l[i] := by simp [rd_T70, hlt]
   obtain ⟨q, hq, hqb, hq0⟩ := laws_szIntS.val l[i].f0 b hb0 hb1 (hx _ (List.getElem_mem _))
   by_cases hneg : q < 0
   ·refine ⟨-1, Ev.step (fun _ => by rw [laws_szScanS.l0]) (Ev.ip (by omega) (Ev.ip (by omega) ?_)), by omega, by omega⟩
    rw [er]
    exact Ev.bind (Ev.c (r := -1) (by unfold laws_szScan.f; rw [hq, zS, if_pos hneg])) (Ev.ip (by omega) (Ev.now _))
   ·obtain ⟨r, hr, hrb, hr0⟩ := ih (i + 1) q (by omega) (by omega) (by omega) (by omega)
    refine ⟨r, Ev.step (fun _ => by rw [laws_szScanS.l0]) (Ev.ip (by omega) (Ev.ip (by omega) ?_)), by omega, fun h0r x hxm => ?_⟩
    ·rw [er, wrap_succ i (by omega)]
     exact Ev.bind (Ev.c (r := q) (by unfold laws_szScan.f; rw [hq, zS, if_neg hneg])) (Ev.ng hneg hr)
    ·rw [List.drop_eq_getElem_cons hlt] at hxm
     rcases List.mem_cons.1 hxm with rfl | hxm
     ·have := hq0 (by omega); omega
     ·exact hr0 h0r x hxm
 obtain ⟨r, hr, hrb, hr0⟩ := key _ 0 (a - l.length) rfl (by omega) (by omega) (by omega)
 refine ⟨r, Ev.ng h hr, by omega, fun h0r => ⟨by omega, ?_⟩⟩
 simpa using hr0 h0r
end Go.Proofs.YtilimpjcdeeaiaaGreat.G


namespace Go.Proofs.YtilimpjcdeeaiaaGreat.G
open Go.RowKit Go.Proofs.YtilimpjcdeeaiaaGreatW.PrintWords Go.Proofs.YtilimpjcdeeaiaaGreatW.PrintLast Go.Proofs.YtilimpjcdeeaiaaGreatW.PrintMore
attribute [local go_sem] max2_int min2_int max_two min_two max_three min_three max_four min_four   -- for this text's walks alone
def laws_szByteS.f (l0 : List Int) (a1 : Int) : Option (Int) := if (wrap64 (a1 - (l0.length : Int))) < 0 then (some (-1)) else (some (wrap64 (a1 - (l0.length : Int))))
set_option maxHeartbeats 8000000 in
set_option maxRecDepth 100000 in
theorem laws_szByteS.calls (A0 : Option Addr) (c0 : Nat) (l0 : List Int) (a1 : Int) (r : Int) (w : World) (hr0 : Kd.C (Kd.int .u8) w A0 l0.length l0) (hc0 : l0.length ≤ c0) (h : laws_szByteS.f l0 a1 = some r) :
  Calls Tryz.prog 13 #[.slice A0 l0.length c0, .int .i64 a1] w fun e w' => e = .returned (.int .i64 r) ∧ Drawn0 w w' := by
 have HR0 := zA hr0
 have HC0 := zA hc0
 clear hr0 hc0
 have H : (if (wrap64 (a1 - (l0.length : Int))) < 0 then (some (-1)) else (some (wrap64 (a1 - (l0.length : Int))))) = some r := h
 clear h
 by_cases c3 : (wrap64 (a1 - (l0.length : Int))) < 0
 ·rw [if_pos c3] at H
  have c3b0 := zT c3
  clear c3
  obtain rfl := Option.some.inj H
  go_enter Tryz.func13, Tryz.ntmps13
  go_wp2
  go_ret
  exact ⟨by first | rfl | (simp; done) | (simp [*]; done), by repeat (first | exact Drawn0.refl _ | apply Drawn0.step)⟩
 rw [if_neg c3] at H
 have c3b0 := decide_eq_false c3
 clear c3
 obtain rfl := Option.some.inj H
 go_enter Tryz.func13, Tryz.ntmps13
 go_wp2
 go_ret
 exact ⟨by first | rfl | (simp; done) | (simp [*]; done), by repeat (first | exact Drawn0.refl _ | apply Drawn0.step)⟩
end Go.Proofs.YtilimpjcdeeaiaaGreat.G


namespace Go.Proofs.YtilimpjcdeeaiaaGreat.G
open Go.RowKit Go.Proofs.YtilimpjcdeeaiaaGreatW.PrintWords Go.Proofs.YtilimpjcdeeaiaaGreatW.PrintLast Go.Proofs.YtilimpjcdeeaiaaGreatW.PrintMore
attribute [local go_sem] max2_int min2_int max_two min_two max_three min_three max_four min_four   -- for this text's walks alone
def laws_szCompS.f (l0 : List (S95)) (a1 : Int) : Option (Int) := if (wrap64 (a1 - (l0.length : Int))) < 0 then (some (-1)) else (some (wrap64 (a1 - (l0.length : Int))))
set_option maxHeartbeats 8000000 in
set_option maxRecDepth 100000 in
theorem laws_szCompS.calls (A0 : Option Addr) (c0 : Nat) (l0 : List (S95)) (a1 : Int) (r : Int) (w : World) (hr0 : Kd.C k95 w A0 l0.length l0) (hc0 : l0.length ≤ c0) (h : laws_szCompS.f l0 a1 = some r) :
  Calls Tryz.prog 32 #[.slice A0 l0.length c0, .int .i64 a1] w fun e w' => e = .returned (.int .i64 r) ∧ Drawn0 w w' := by
 have HR0 := zA hr0
 have HC0 := zA hc0
 clear hr0 hc0
 have H : (if (wrap64 (a1 - (l0.length : Int))) < 0 then (some (-1)) else (some (wrap64 (a1 - (l0.length : Int))))) = some r := h
 clear h
 by_cases c3 : (wrap64 (a1 - (l0.length : Int))) < 0
 ·rw [if_pos c3] at H
  have c3b0 := zT c3
  clear c3
  obtain rfl := Option.some.inj H
  go_enter Tryz.func32, Tryz.ntmps32
  go_wp2
  go_ret
  exact ⟨by first | rfl | (simp; done) | (simp [*]; done), by repeat (first | exact Drawn0.refl _ | apply Drawn0.step)⟩
 rw [if_neg c3] at H
 have c3b0 := decide_eq_false c3
 clear c3
 obtain rfl := Option.some.inj H
 go_enter Tryz.func32, Tryz.ntmps32
 go_wp2
 go_ret
 exact ⟨by first | rfl | (simp; done) | (simp [*]; done), by repeat (first | exact Drawn0.refl _ | apply Drawn0.step)⟩
end Go.Proofs.YtilimpjcdeeaiaaGreat.G


namespace Go.Proofs.YtilimpjcdeeaiaaGreat.G
open Go.RowKit Go.Proofs.YtilimpjcdeeaiaaGreatW.PrintWords Go.Proofs.YtilimpjcdeeaiaaGreatW.PrintLast Go.Proofs.YtilimpjcdeeaiaaGreatW.PrintMore
attribute [local go_sem] max2_int min2_int max_two min_two max_three min_three max_four min_four   -- for this text's walks alone
def laws_szFrame.f (a0_0 : Int) (a0_1 : Int) (a0_2 : Int) (a0_3 : Int) (l0_4 : List (S95)) (a1 : Int) : Option (Int) := (laws_szCompS.f l0_4 a1).bind fun t102 => (if t102 < 0 then (some (-1)) else (some t102))
set_option maxHeartbeats 8000000 in
set_option maxRecDepth 100000 in
theorem laws_szFrame.calls (a0_0 : Int) (a0_1 : Int) (a0_2 : Int) (a0_3 : Int) (A0_4 : Option Addr) (c0_4 : Nat) (l0_4 : List (S95)) (a1 : Int) (r : Int) (w : World) (hr0_4 : Kd.C k95 w A0_4 l0_4.length l0_4) (hc0_4 : l0_4.length ≤ c0_4) (h : laws_szFrame.f a0_0 a0_1 a0_2 a0_3 l0_4 a1 = some r) :
  Calls Tryz.prog 9 #[.agg #[.int .i64 a0_0, .int .i64 a0_1, .int .i64 a0_2, .int .i64 a0_3, .slice A0_4 l0_4.length c0_4], .int .i64 a1] w fun e w' => e = .returned (.int .i64 r) ∧ Below w.heap.size w w' := by
 have hu24 := Tryz.underlying24
 have HR0_4 := zA hr0_4
 have HC0_4 := zA hc0_4
 clear hr0_4 hc0_4
 have HB := zA (Below.refl w.heap.size w)
 have H : ((laws_szCompS.f l0_4 a1).bind fun t102 => (if t102 < 0 then (some (-1)) else (some t102))) = some r := h
 clear h
 replace H := Option.bind_eq_some_iff.mp H
 obtain ⟨t102, A30, H⟩ := H
 try dsimp only at H
 have A3 := zA A30
 clear A30
 have HF4 := zA H
 clear H
 go_enter Tryz.func9, Tryz.ntmps9
 go_upto_if 10 with (first | ((with_reducible refine gate_dst (N := 2) rfl ?_); refine nxX (N := 2) (cs := #[.int .i64 a0_0, .int .i64 a0_1, .int .i64 a0_2, .int .i64 a0_3, .slice A0_4 l0_4.length c0_4]) (t := 24) ?_; intro gb101 hg w5 hbox hb; have n0_ := nxH hb HB; have n1_ := zA (hbox); clear HB; have HB := n0_; have BK101 := n1_; clear n0_ n1_ ; clear hb hbox hg; obtain ⟨hcz6_0, hcz6_1, hcz6_2, hcz6_3, hcz6_4⟩ := cz5 BK101) | ((with_reducible refine gate_callee (f := 32) rfl ?_); refine goesL_ (some 8) rfl rfl Tryz.func32 (by kernel_rfl) rfl #[.slice A0_4 l0_4.length c0_4, .int .i64 a1] rfl (by (try simp only [zU, zV, zW]); first | done | rfl | (simp only [zR, zQ]; rfl)) ?_; (with_reducible refine (laws_szCompS.calls _ _ l0_4 a1 t102 _ ?side1 ?side2 A3.out).mono ?_); (case side1 => exact nxC HR0_4 HB); (case side2 => exact HC0_4.out); rintro e w' ⟨rfl, ⟨nd, rfl⟩⟩; refine ⟨_, rfl, ?_⟩))
 have H := HF4.out
 clear HF4
 by_cases c7 : t102 < 0
 ·rw [if_pos c7] at H
  have c7b0 := zT c7
  clear c7
  (first | rw [c7b0] | rw [c7b1] | (simp only [i64_w, i32_w]; first | rw [c7b0] | rw [c7b1]) | skip)
  obtain rfl := Option.some.inj H
  go_wp2
  go_ret
  exact ⟨rfl, nxD HB⟩
 rw [if_neg c7] at H
 have c7b0 := decide_eq_false c7
 clear c7
 (first | rw [c7b0] | rw [c7b1] | (simp only [i64_w, i32_w]; first | rw [c7b0] | rw [c7b1]) | skip)
 obtain rfl := Option.some.inj H
 go_wp2
 go_ret
 exact ⟨rfl, nxD HB⟩
end Go.Proofs.YtilimpjcdeeaiaaGreat.G


namespace Go.Proofs.YtilimpjcdeeaiaaGreat.G
open Go.RowKit Go.Proofs.YtilimpjcdeeaiaaGreatW.PrintWords Go.Proofs.YtilimpjcdeeaiaaGreatW.PrintLast Go.Proofs.YtilimpjcdeeaiaaGreatW.PrintMore
attribute [local go_sem] max2_int min2_int max_two min_two max_three min_three max_four min_four   -- for this text's walks alone
def laws_szStream.f (k : Nat) (a0_0 : Int) (a0_1 : Int) (a0_2 : Int) (a0_3 : Int) (l0_4 : List (S95)) (l0_5 : List (List Int)) (l0_6 : List (List (List Int))) (a0_7 : Int) (l0_8 : List (S70)) (l0_9 : List Int) (a1 : Int) : Option (Int) := (laws_szFrame.f a0_0 a0_1 a0_2 a0_3 l0_4 a1).bind fun t114 => (if t114 < 0 then (some (-1)) else ((laws_szIntSS.f k l0_5 t114).bind fun t115 => (if t115 < 0 then (some (-1)) else ((laws_szCoefs.f k l0_6 t115).bind fun t116 => (if t116 < 0 then (some (-1)) else ((laws_szScanS.f k l0_8 t116).bind fun t117 => (if t117 < 0 then (some (-1)) else ((laws_szByteS.f l0_9 t117).bind fun t118 => (if t118 < 0 then (some (-1)) else (some t118))))))))))
set_option maxHeartbeats 8000000 in
set_option maxRecDepth 100000 in
theorem laws_szStream.calls (k : Nat) (a0_0 : Int) (a0_1 : Int) (a0_2 : Int) (a0_3 : Int) (A0_4 : Option Addr) (c0_4 : Nat) (l0_4 : List (S95)) (A0_5 : Option Addr) (c0_5 : Nat) (l0_5 : List (List Int)) (A0_6 : Option Addr) (c0_6 : Nat) (l0_6 : List (List (List Int))) (a0_7 : Int) (A0_8 : Option Addr) (c0_8 : Nat) (l0_8 : List (S70)) (A0_9 : Option Addr) (c0_9 : Nat) (l0_9 : List Int) (a1 : Int) (r : Int) (w : World) (hr0_4 : Kd.C k95 w A0_4 l0_4.length l0_4) (hc0_4 : l0_4.length ≤ c0_4) (hr0_5 : Kd.C (Kd.slice 3 (Kd.int .i64)) w A0_5 l0_5.length l0_5) (hc0_5 : l0_5.length ≤ c0_5) (hr0_6 : Kd.C (Kd.slice 66 (Kd.slice 3 (Kd.int .i64))) w A0_6 l0_6.length l0_6) (hc0_6 : l0_6.length ≤ c0_6) (hr0_8 : Kd.C k70 w A0_8 l0_8.length l0_8) (hc0_8 : l0_8.length ≤ c0_8) (hr0_9 : Kd.C (Kd.int .u8) w A0_9 l0_9.length l0_9) (hc0_9 : l0_9.length ≤ c0_9) (h : laws_szStream.f k a0_0 a0_1 a0_2 a0_3 l0_4 l0_5 l0_6 a0_7 l0_8 l0_9 a1 = some r) :
  Calls Tryz.prog 4 #[.agg #[.int .i64 a0_0, .int .i64 a0_1, .int .i64 a0_2, .int .i64 a0_3, .slice A0_4 l0_4.length c0_4, .slice A0_5 l0_5.length c0_5, .slice A0_6 l0_6.length c0_6, .int .i64 a0_7, .slice A0_8 l0_8.length c0_8, .slice A0_9 l0_9.length c0_9], .int .i64 a1] w fun e w' => e = .returned (.int .i64 r) ∧ Below w.heap.size w w' := by
 have hu32 := Tryz.underlying32
 have hu24 := Tryz.underlying24
 have hu28 := Tryz.underlying28
 have HR0_4 := zA hr0_4
 have HC0_4 := zA hc0_4
 clear hr0_4 hc0_4
 have HR0_5 := zA hr0_5
 have HC0_5 := zA hc0_5
 clear hr0_5 hc0_5
 have HR0_6 := zA hr0_6
 have HC0_6 := zA hc0_6
 clear hr0_6 hc0_6
 have HR0_8 := zA hr0_8
 have HC0_8 := zA hc0_8
 clear hr0_8 hc0_8
 have HR0_9 := zA hr0_9
 have HC0_9 := zA hc0_9
 clear hr0_9 hc0_9
 have HB := zA (Below.refl w.heap.size w)
 have H : ((laws_szFrame.f a0_0 a0_1 a0_2 a0_3 l0_4 a1).bind fun t114 => (if t114 < 0 then (some (-1)) else ((laws_szIntSS.f k l0_5 t114).bind fun t115 => (if t115 < 0 then (some (-1)) else ((laws_szCoefs.f k l0_6 t115).bind fun t116 => (if t116 < 0 then (some (-1)) else ((laws_szScanS.f k l0_8 t116).bind fun t117 => (if t117 < 0 then (some (-1)) else ((laws_szByteS.f l0_9 t117).bind fun t118 => (if t118 < 0 then (some (-1)) else (some t118))))))))))) = some r := h
 clear h
 replace H := Option.bind_eq_some_iff.mp H
 obtain ⟨t114, A30, H⟩ := H
 try dsimp only at H
 have A3 := zA A30
 clear A30
 have HF4 := zA H
 clear H
 go_enter Tryz.func4, Tryz.ntmps4
 go_upto_if 10 with (first | ((with_reducible refine gate_dst (N := 2) rfl ?_); refine nxX (N := 2) (cs := #[.int .i64 a0_0, .int .i64 a0_1, .int .i64 a0_2, .int .i64 a0_3, .slice A0_4 l0_4.length c0_4, .slice A0_5 l0_5.length c0_5, .slice A0_6 l0_6.length c0_6, .int .i64 a0_7, .slice A0_8 l0_8.length c0_8, .slice A0_9 l0_9.length c0_9]) (t := 32) ?_; intro gb113 hg w5 hbox hb; have n0_ := nxH hb HB; have n1_ := zA (hbox); clear HB; have HB := n0_; have BK113 := n1_; clear n0_ n1_ ; clear hb hbox hg; obtain ⟨hcz6_0, hcz6_1, hcz6_2, hcz6_3, hcz6_4, hcz6_5, hcz6_6, hcz6_7, hcz6_8, hcz6_9⟩ := cz10 BK113) | ((with_reducible refine gate_callee (f := 9) rfl ?_); refine goesL_ (some 8) rfl rfl Tryz.func9 (by kernel_rfl) rfl #[.agg #[.int .i64 a0_0, .int .i64 a0_1, .int .i64 a0_2, .int .i64 a0_3, .slice A0_4 l0_4.length c0_4], .int .i64 a1] rfl (by (try simp only [zU, zV, zW]); first | done | rfl | (simp only [zR, zQ]; rfl)) ?_; (with_reducible refine (laws_szFrame.calls a0_0 a0_1 a0_2 a0_3 _ _ l0_4 a1 t114 _ ?side1 ?side2 A3.out).mono ?_); (case side1 => exact nxC HR0_4 HB); (case side2 => exact HC0_4.out); rintro e w7 ⟨rfl, hb⟩; refine ⟨_, rfl, ?_⟩; replace BK113 := nxB hb BK113; replace HB := nxH hb HB; (try clear hb); (try clear hb2); (try clear hk); (try clear hi)))
 have H := HF4.out
 clear HF4
 by_cases c8 : t114 < 0
 ·rw [if_pos c8] at H
  have c8b0 := zT c8
  clear c8
  (first | rw [c8b0] | rw [c8b1] | (simp only [i64_w, i32_w]; first | rw [c8b0] | rw [c8b1]) | skip)
  obtain rfl := Option.some.inj H
  go_wp2
  go_ret
  exact ⟨rfl, nxD HB⟩
 ·rw [if_neg c8] at H
  have c8b0 := decide_eq_false c8
  clear c8
  (first | rw [c8b0] | rw [c8b1] | (simp only [i64_w, i32_w]; first | rw [c8b0] | rw [c8b1]) | skip)
  replace H := Option.bind_eq_some_iff.mp H
  obtain ⟨t115, A90, H⟩ := H
  try dsimp only at H
  have A9 := zA A90
  clear A90
  have HF10 := zA H
  clear H
  obtain ⟨hcz11_0, hcz11_1, hcz11_2, hcz11_3, hcz11_4, hcz11_5, hcz11_6, hcz11_7, hcz11_8, hcz11_9⟩ := cz10 BK113
  go_upto_if 16 with (first | ((with_reducible refine gate_callee (f := 10) rfl ?_); refine goesL_ (some 14) rfl rfl Tryz.func10 (by kernel_rfl) rfl #[.slice A0_5 l0_5.length c0_5, .int .i64 t114] rfl (by (try simp only [zU, zV, zW]); first | done | rfl | (simp only [zR, zQ]; rfl)) ?_; (with_reducible refine (laws_szIntSS.calls k _ _ l0_5 t114 t115 _ ?side1 ?side2 A9.out).mono ?_); (case side1 => exact nxC HR0_5 HB); (case side2 => exact HC0_5.out); rintro e w' ⟨rfl, ⟨nd, rfl⟩⟩; refine ⟨_, rfl, ?_⟩))
  have H := HF10.out
  clear HF10
  by_cases c12 : t115 < 0
  ·rw [if_pos c12] at H
   have c12b0 := zT c12
   clear c12
   (first | rw [c12b0] | rw [c12b1] | (simp only [i64_w, i32_w]; first | rw [c12b0] | rw [c12b1]) | skip)
   obtain rfl := Option.some.inj H
   go_wp2
   go_ret
   exact ⟨rfl, nxD HB⟩
  ·rw [if_neg c12] at H
   have c12b0 := decide_eq_false c12
   clear c12
   (first | rw [c12b0] | rw [c12b1] | (simp only [i64_w, i32_w]; first | rw [c12b0] | rw [c12b1]) | skip)
   replace H := Option.bind_eq_some_iff.mp H
   obtain ⟨t116, A130, H⟩ := H
   try dsimp only at H
   have A13 := zA A130
   clear A130
   have HF14 := zA H
   clear H
   obtain ⟨hcz15_0, hcz15_1, hcz15_2, hcz15_3, hcz15_4, hcz15_5, hcz15_6, hcz15_7, hcz15_8, hcz15_9⟩ := cz10 BK113
   go_upto_if 22 with (first | ((with_reducible refine gate_callee (f := 11) rfl ?_); refine goesL_ (some 20) rfl rfl Tryz.func11 (by kernel_rfl) rfl #[.agg #[.slice A0_6 l0_6.length c0_6], .int .i64 t115] rfl (by (try simp only [zU, zV, zW]); first | done | rfl | (simp only [zR, zQ]; rfl)) ?_; (with_reducible refine (laws_szCoefs.calls k _ _ l0_6 t115 t116 _ ?side1 ?side2 A13.out).mono ?_); (case side1 => exact nxC HR0_6 HB); (case side2 => exact HC0_6.out); rintro e w16 ⟨rfl, hb⟩; refine ⟨_, rfl, ?_⟩; replace BK113 := nxB hb BK113; replace HB := nxH hb HB; (try clear hb); (try clear hb2); (try clear hk); (try clear hi)))
   have H := HF14.out
   clear HF14
   by_cases c17 : t116 < 0
   ·rw [if_pos c17] at H
    have c17b0 := zT c17
    clear c17
    (first | rw [c17b0] | rw [c17b1] | (simp only [i64_w, i32_w]; first | rw [c17b0] | rw [c17b1]) | skip)
    obtain rfl := Option.some.inj H
    go_wp2
    go_ret
    exact ⟨rfl, nxD HB⟩
   ·rw [if_neg c17] at H
    have c17b0 := decide_eq_false c17
    clear c17
    (first | rw [c17b0] | rw [c17b1] | (simp only [i64_w, i32_w]; first | rw [c17b0] | rw [c17b1]) | skip)
    replace H := Option.bind_eq_some_iff.mp H
    obtain ⟨t117, A180, H⟩ := H
    try dsimp only at H
    have A18 := zA A180
    clear A180
    have HF19 := zA H
    clear H
    obtain ⟨hcz20_0, hcz20_1, hcz20_2, hcz20_3, hcz20_4, hcz20_5, hcz20_6, hcz20_7, hcz20_8, hcz20_9⟩ := cz10 BK113
    go_upto_if 28 with (first | ((with_reducible refine gate_callee (f := 12) rfl ?_); refine goesL_ (some 26) rfl rfl Tryz.func12 (by kernel_rfl) rfl #[.slice A0_8 l0_8.length c0_8, .int .i64 t116] rfl (by (try simp only [zU, zV, zW]); first | done | rfl | (simp only [zR, zQ]; rfl)) ?_; (with_reducible refine (laws_szScanS.calls k _ _ l0_8 t116 t117 _ ?side1 ?side2 A18.out).mono ?_); (case side1 => exact nxC HR0_8 HB); (case side2 => exact HC0_8.out); rintro e w21 ⟨rfl, hb⟩; refine ⟨_, rfl, ?_⟩; replace BK113 := nxB hb BK113; replace HB := nxH hb HB; (try clear hb); (try clear hb2); (try clear hk); (try clear hi)))
    have H := HF19.out
    clear HF19
    by_cases c22 : t117 < 0
    ·rw [if_pos c22] at H
     have c22b0 := zT c22
     clear c22
     (first | rw [c22b0] | rw [c22b1] | (simp only [i64_w, i32_w]; first | rw [c22b0] | rw [c22b1]) | skip)
     obtain rfl := Option.some.inj H
     go_wp2
     go_ret
     exact ⟨rfl, nxD HB⟩
    ·rw [if_neg c22] at H
     have c22b0 := decide_eq_false c22
     clear c22
     (first | rw [c22b0] | rw [c22b1] | (simp only [i64_w, i32_w]; first | rw [c22b0] | rw [c22b1]) | skip)
     replace H := Option.bind_eq_some_iff.mp H
     obtain ⟨t118, A230, H⟩ := H
     try dsimp only at H
     have A23 := zA A230
     clear A230
     have HF24 := zA H
     clear H
     obtain ⟨hcz25_0, hcz25_1, hcz25_2, hcz25_3, hcz25_4, hcz25_5, hcz25_6, hcz25_7, hcz25_8, hcz25_9⟩ := cz10 BK113
     go_upto_if 34 with (first | ((with_reducible refine gate_callee (f := 13) rfl ?_); refine goesL_ (some 32) rfl rfl Tryz.func13 (by kernel_rfl) rfl #[.slice A0_9 l0_9.length c0_9, .int .i64 t117] rfl (by (try simp only [zU, zV, zW]); first | done | rfl | (simp only [zR, zQ]; rfl)) ?_; (with_reducible refine (laws_szByteS.calls _ _ l0_9 t117 t118 _ ?side1 ?side2 A23.out).mono ?_); (case side1 => exact nxC HR0_9 HB); (case side2 => exact HC0_9.out); rintro e w' ⟨rfl, ⟨nd, rfl⟩⟩; refine ⟨_, rfl, ?_⟩))
     have H := HF24.out
     clear HF24
     by_cases c26 : t118 < 0
     ·rw [if_pos c26] at H
      have c26b0 := zT c26
      clear c26
      (first | rw [c26b0] | rw [c26b1] | (simp only [i64_w, i32_w]; first | rw [c26b0] | rw [c26b1]) | skip)
      obtain rfl := Option.some.inj H
      go_wp2
      go_ret
      exact ⟨rfl, nxD HB⟩
     ·rw [if_neg c26] at H
      have c26b0 := decide_eq_false c26
      clear c26
      (first | rw [c26b0] | rw [c26b1] | (simp only [i64_w, i32_w]; first | rw [c26b0] | rw [c26b1]) | skip)
      obtain rfl := Option.some.inj H
      go_wp2
      go_ret
      exact ⟨rfl, nxD HB⟩
def szOk (l : List S95) (tb : List (List Int)) (pl : List (List (List Int))) (sc : List S70) (nt : List Int) : Prop := l.length ≤ 1048576 ∧ (tb.length ≤ 1048576 ∧ ∀ x ∈ tb, x.length ≤ 1048576) ∧ (pl.length ≤ 1048576 ∧ ∀ x ∈ pl, x.length ≤ 1048576 ∧ ∀ y ∈ x, y.length ≤ 1048576) ∧ (sc.length ≤ 1048576 ∧ ∀ x ∈ sc, x.f0.length ≤ 1048576) ∧ nt.length ≤ 1048576
def szBig (l : List S95) (tb : List (List Int)) (pl : List (List (List Int))) (sc : List S70) (nt : List Int) : Prop := l.length ≤ 9223372036854775807 ∧ (tb.length ≤ 9223372036854775807 ∧ ∀ x ∈ tb, x.length ≤ 9223372036854775807) ∧ (pl.length ≤ 9223372036854775807 ∧ ∀ x ∈ pl, x.length ≤ 9223372036854775807 ∧ ∀ y ∈ x, y.length ≤ 9223372036854775807) ∧ (sc.length ≤ 9223372036854775807 ∧ ∀ x ∈ sc, x.f0.length ≤ 9223372036854775807) ∧ nt.length ≤ 9223372036854775807
theorem laws_szStream.ev (p w h r : Int) (l : List S95) (tb : List (List Int)) (pl : List (List (List Int))) (md : Int) (sc : List S70) (nt : List Int) (a : Int) (h0 : 0 ≤ a) (h1 : a ≤ 1048576) (hb : szBig l tb pl sc nt) :
  ∃ z, Ev (fun k => laws_szStream.f k p w h r l tb pl md sc nt a) z ∧ z ≤ a ∧ (0 ≤ z → szOk l tb pl sc nt) := by
 obtain ⟨b1, b2, b3, b4, b5⟩ := hb
 unfold laws_szStream.f
 have hf : ∃ z, laws_szFrame.f p w h r l a = some z ∧ z ≤ a ∧ (0 ≤ z → l.length ≤ 1048576) := by
  unfold laws_szFrame.f laws_szCompS.f
  rw [wrap_in _ (by omega) (by omega)]
  by_cases hn : a - (l.length : Int) < 0
  ·exact ⟨-1, by rw [if_pos hn]; rfl, by omega, by omega⟩
  ·exact ⟨a - l.length, by rw [if_neg hn, zS, if_neg hn], by omega, by omega⟩
 obtain ⟨z1, e1, u1, v1⟩ := hf
 by_cases n1 : z1 < 0
 ·exact ⟨-1, Ev.bind (Ev.c e1) (Ev.ip n1 (Ev.now _)), by omega, by omega⟩
 obtain ⟨z2, e2, u2, v2⟩ := laws_szIntSS.ev tb z1 (by omega) (by omega) b2.1 b2.2
 by_cases n2 : z2 < 0
 ·exact ⟨-1, Ev.bind (Ev.c e1) (Ev.ng n1 (Ev.bind e2 (Ev.ip n2 (Ev.now _)))), by omega, by omega⟩
 obtain ⟨z3, e3, u3, v3⟩ := laws_szIntSSS.ev pl z2 (by omega) (by omega) b3.1 b3.2
 have c3 : Ev (fun k => laws_szCoefs.f k pl z2) (if z3 < 0 then -1 else z3) := by
  unfold laws_szCoefs.f
  refine Ev.bind e3 ?_
  by_cases hn : z3 < 0
  ·exact Ev.eq (Ev.ip hn (Ev.now _)) (by rw [if_pos hn])
  ·exact Ev.eq (Ev.ng hn (Ev.now _)) (by rw [if_neg hn])
 by_cases n3 : z3 < 0
 ·rw [if_pos n3] at c3
  exact ⟨-1, Ev.bind (Ev.c e1) (Ev.ng n1 (Ev.bind e2 (Ev.ng n2 (Ev.bind c3 (Ev.ip (by omega) (Ev.now _)))))), by omega, by omega⟩
 rw [if_neg n3] at c3
 obtain ⟨z4, e4, u4, v4⟩ := laws_szScanS.ev sc z3 (by omega) (by omega) b4.1 b4.2
 by_cases n4 : z4 < 0
 ·exact ⟨-1, Ev.bind (Ev.c e1) (Ev.ng n1 (Ev.bind e2 (Ev.ng n2 (Ev.bind c3 (Ev.ng n3 (Ev.bind e4 (Ev.ip n4 (Ev.now _)))))))), by omega, by omega⟩
 have hf : ∃ z, laws_szByteS.f nt z4 = some z ∧ z ≤ z4 ∧ (0 ≤ z → nt.length ≤ 1048576) := by
  unfold laws_szByteS.f
  rw [wrap_in _ (by omega) (by omega)]
  by_cases hn : z4 - (nt.length : Int) < 0
  ·exact ⟨-1, by rw [if_pos hn], by omega, by omega⟩
  ·exact ⟨z4 - nt.length, by rw [if_neg hn], by omega, by omega⟩
 obtain ⟨z5, e5, u5, v5⟩ := hf
 by_cases n5 : z5 < 0
 ·exact ⟨-1, Ev.bind (Ev.c e1) (Ev.ng n1 (Ev.bind e2 (Ev.ng n2 (Ev.bind c3 (Ev.ng n3 (Ev.bind e4 (Ev.ng n4 (Ev.bind (Ev.c e5) (Ev.ip n5 (Ev.now _)))))))))), by omega, by omega⟩
 ·exact ⟨z5, Ev.bind (Ev.c e1) (Ev.ng n1 (Ev.bind e2 (Ev.ng n2 (Ev.bind c3 (Ev.ng n3 (Ev.bind e4 (Ev.ng n4 (Ev.bind (Ev.c e5) (Ev.ng n5 (Ev.now _)))))))))), by omega, fun h5 => ⟨v1 (by omega), v2 (by omega), v3 (by omega), v4 (by omega), v5 h5⟩⟩
end Go.Proofs.YtilimpjcdeeaiaaGreat.G


namespace Go.Proofs.YtilimpjcdeeaiaaGreat.G
open Go.RowKit Go.Proofs.YtilimpjcdeeaiaaGreatW.PrintWords Go.Proofs.YtilimpjcdeeaiaaGreatW.PrintLast Go.Proofs.YtilimpjcdeeaiaaGreatW.PrintMore
attribute [local go_sem] max2_int min2_int max_two min_two max_three min_three max_four min_four   -- for this text's walks alone
def spec_l01Between.f (a0 : Int) (a1 : Int) (a2 : Int) : Option (Bool) := if a0 ≥ a1 then (some (decide (a0 ≤ a2))) else (some false)
set_option maxHeartbeats 8000000 in
set_option maxRecDepth 100000 in
theorem spec_l01Between.calls (a0 : Int) (a1 : Int) (a2 : Int) (r : Bool) (w : World) (h : spec_l01Between.f a0 a1 a2 = some r) :
  Calls Tryz.prog 38 #[.int .i64 a0, .int .i64 a1, .int .i64 a2] w fun e w' => e = .returned (.bool r) ∧ Drawn0 w w' := by
 have H : (if a0 ≥ a1 then (some (decide (a0 ≤ a2))) else (some false)) = some r := h
 clear h
 by_cases c4 : a0 ≥ a1
 ·rw [if_pos c4] at H
  have c4b0 := zT c4
  clear c4
  obtain rfl := Option.some.inj H
  go_enter Tryz.func38, Tryz.ntmps38
  go_wp2
  go_ret
  exact ⟨by first | rfl | (simp; done) | (simp [*]; done), by repeat (first | exact Drawn0.refl _ | apply Drawn0.step)⟩
 rw [if_neg c4] at H
 have c4b0 := decide_eq_false c4
 clear c4
 obtain rfl := Option.some.inj H
 go_enter Tryz.func38, Tryz.ntmps38
 go_wp2
 go_ret
 exact ⟨by first | rfl | (simp; done) | (simp [*]; done), by repeat (first | exact Drawn0.refl _ | apply Drawn0.step)⟩
theorem spec_l01Between.val (x lo hi : Int) : spec_l01Between.f x lo hi = some (decide (lo ≤ x) && decide (x ≤ hi)) := by
 unfold spec_l01Between.f
 by_cases h1 : x ≥ lo
 ·rw [if_pos h1]; simp [ge_iff_le.mp h1]
 rw [if_neg h1]; have : ¬ lo ≤ x := h1; simp [this]
end Go.Proofs.YtilimpjcdeeaiaaGreat.G


namespace Go.Proofs.YtilimpjcdeeaiaaGreat.G
open Go.RowKit Go.Proofs.YtilimpjcdeeaiaaGreatW.PrintWords Go.Proofs.YtilimpjcdeeaiaaGreatW.PrintLast Go.Proofs.YtilimpjcdeeaiaaGreatW.PrintMore
attribute [local go_sem] max2_int min2_int max_two min_two max_three min_three max_four min_four   -- for this text's walks alone
theorem mul_256 (w h : Int) (h1 : 1 ≤ w) (h2 : w ≤ 256) (h3 : 1 ≤ h) (h4 : h ≤ 256) : 1 ≤ w * h ∧ w * h ≤ 65536 := by
 constructor
 ·have := Int.mul_le_mul h1 h3 (by omega) (by omega); omega
 ·have := Int.mul_le_mul h2 h4 (by omega) (by omega); omega
def headOk (p w h : Int) : Bool := (decide (p = 8) || decide (p = 12)) && ((decide (1 ≤ w) && decide (w ≤ 256)) && (decide (1 ≤ h) && decide (h ≤ 256))) && decide (w * h ≤ 16384)
structure HeadOk (p w h : Int) : Prop where
 p0 : 0 ≤ p
 w1 : 1 ≤ w
 w2 : w ≤ 256
 h1 : 1 ≤ h
 h2 : h ≤ 256
 a1 : 1 ≤ w * h
 a2 : w * h ≤ 16384
end Go.Proofs.YtilimpjcdeeaiaaGreat.G


namespace Go.Proofs.YtilimpjcdeeaiaaGreat.G
open Go.RowKit Go.Proofs.YtilimpjcdeeaiaaGreatW.PrintWords Go.Proofs.YtilimpjcdeeaiaaGreatW.PrintLast Go.Proofs.YtilimpjcdeeaiaaGreatW.PrintMore
attribute [local go_sem] max2_int min2_int max_two min_two max_three min_three max_four min_four   -- for this text's walks alone
abbrev SC := S53
def compOk (x : SC) : Bool := (decide (0 ≤ x.f0) && decide (x.f0 ≤ 255)) && ((decide (1 ≤ x.f1) && decide (x.f1 ≤ 4)) && ((decide (1 ≤ x.f2) && decide (x.f2 ≤ 4)) && (decide (0 ≤ x.f3) && decide (x.f3 ≤ 3))))
/-- one of the components ahead has the number -/
def idIn (l : List SC) (i : Nat) (n : Int) : Bool := (l.take i).any fun y => decide (y.f0 = n)
def compsGo (l : List SC) : Nat → Nat → Int → Bool
 | _, 0, s => decide (s ≤ 10)
 | i, d + 1, s => compOk (rd_T53 l i) && (!idIn l i (rd_T53 l i).f0 && compsGo l (i + 1) d (s + (rd_T53 l i).f1 * (rd_T53 l i).f2))
def frameHead (p w h r n : Int) : Bool := headOk p w h && ((decide (0 ≤ r) && decide (r ≤ 255)) && (decide (1 ≤ n) && decide (n ≤ 4)))
def frameOkM (p w h r : Int) (l : List SC) : Bool := frameHead p w h r (l.length : Int) && compsGo l 0 l.length 0
theorem frameHead_len {p w h r n : Int} (q : frameHead p w h r n = true) : 1 ≤ n ∧ n ≤ 4 := by
 unfold frameHead at q
 simp only [Bool.and_eq_true, decide_eq_true_eq] at q
 exact q.2.2
theorem frameOk_len {p w h r : Int} {l : List SC} (q : frameOkM p w h r l = true) : 1 ≤ l.length ∧ l.length ≤ 4 := by
 unfold frameOkM at q
 rw [Bool.and_eq_true] at q
 have := frameHead_len q.1
 omega
theorem compOk_of {x : SC} (q : compOk x = true) : (0 ≤ x.f0 ∧ x.f0 ≤ 255) ∧ (1 ≤ x.f1 ∧ x.f1 ≤ 4) ∧ (1 ≤ x.f2 ∧ x.f2 ≤ 4) ∧ 0 ≤ x.f3 ∧ x.f3 ≤ 3 := by
 unfold compOk at q
 simp only [Bool.and_eq_true, decide_eq_true_eq] at q
 exact q
theorem mul_16 (a b : Int) (h1 : 1 ≤ a) (h2 : a ≤ 4) (h3 : 1 ≤ b) (h4 : b ≤ 4) : 1 ≤ a * b ∧ a * b ≤ 16 := by
 constructor
 ·have := Int.mul_le_mul h1 h3 (by omega) (by omega); omega
 ·have := Int.mul_le_mul h2 h4 (by omega) (by omega); omega
end Go.Proofs.YtilimpjcdeeaiaaGreat.G


namespace Go.Proofs.YtilimpjcdeeaiaaGreat.G
open Go.RowKit Go.Proofs.YtilimpjcdeeaiaaGreatW.PrintWords Go.Proofs.YtilimpjcdeeaiaaGreatW.PrintLast Go.Proofs.YtilimpjcdeeaiaaGreatW.PrintMore
attribute [local go_sem] max2_int min2_int max_two min_two max_three min_three max_four min_four   -- for this text's walks alone
mutual
def spec_FrameOk.j0 : Nat → Bool → Int → Int → Int → Int → List (S53) → Option (Bool)
 | 0, _, _, _, _, _, _ => none
 | k + 1, x47, x120000, x120001, x120002, x120003, x120004 => if x47 = true then (some false) else (spec_FrameOk.l0 k 0 0 x120000 x120001 x120002 x120003 x120004)
def spec_FrameOk.l0 : Nat → Int → Int → Int → Int → Int → Int → List (S53) → Option (Bool)
 | 0, _, _, _, _, _, _, _ => none
 | k + 1, x3, x4, x120000, x120001, x120002, x120003, x120004 => if x4 < (x120004.length : Int) then (if 0 ≤ x4 then ((spec_l01Between.f ((rd_T53 x120004 x4).f0) 0 255).bind fun t130 => (if t130 = true then ((spec_l01Between.f ((rd_T53 x120004 x4).f1) 1 4).bind fun t131 => (if t131 = true then ((spec_l01Between.f ((rd_T53 x120004 x4).f2) 1 4).bind fun t132 => (if t132 = true then ((spec_l01Between.f ((rd_T53 x120004 x4).f3) 0 3).bind fun t133 => (spec_FrameOk.j2 k x3 x4 (!t133) x120000 x120001 x120002 x120003 x120004 ((rd_T53 x120004 x4).f0) ((rd_T53 x120004 x4).f1) ((rd_T53 x120004 x4).f2) ((rd_T53 x120004 x4).f3))) else (spec_FrameOk.j2 k x3 x4 true x120000 x120001 x120002 x120003 x120004 ((rd_T53 x120004 x4).f0) ((rd_T53 x120004 x4).f1) ((rd_T53 x120004 x4).f2) ((rd_T53 x120004 x4).f3)))) else (spec_FrameOk.j2 k x3 x4 true x120000 x120001 x120002 x120003 x120004 ((rd_T53 x120004 x4).f0) ((rd_T53 x120004 x4).f1) ((rd_T53 x120004 x4).f2) ((rd_T53 x120004 x4).f3)))) else (spec_FrameOk.j2 k x3 x4 true x120000 x120001 x120002 x120003 x120004 ((rd_T53 x120004 x4).f0) ((rd_T53 x120004 x4).f1) ((rd_T53 x120004 x4).f2) ((rd_T53 x120004 x4).f3)))) else (none)) else (some (decide (x3 ≤ 10)))
def spec_FrameOk.j2 : Nat → Int → Int → Bool → Int → Int → Int → Int → List (S53) → Int → Int → Int → Int → Option (Bool)
 | 0, _, _, _, _, _, _, _, _, _, _, _, _ => none
 | k + 1, x3, x4, x81, x120000, x120001, x120002, x120003, x120004, x130000, x130001, x130002, x130003 => if x81 = true then (some false) else (spec_FrameOk.l1 k x3 x4 0 x120000 x120001 x120002 x120003 x120004 x130000 x130001 x130002 x130003)
def spec_FrameOk.l1 : Nat → Int → Int → Int → Int → Int → Int → Int → List (S53) → Int → Int → Int → Int → Option (Bool)
 | 0, _, _, _, _, _, _, _, _, _, _, _, _ => none
 | k + 1, x3, x4, x6, x120000, x120001, x120002, x120003, x120004, x130000, x130001, x130002, x130003 => if x6 < x4 then (if 0 ≤ x6 then (if x6 < (x120004.length : Int) then (if ((rd_T53 x120004 x6).f0) = x130000 then (some false) else (spec_FrameOk.l1 k x3 x4 (wrap64 (x6 + 1)) x120000 x120001 x120002 x120003 x120004 x130000 x130001 x130002 x130003)) else (none)) else (none)) else (spec_FrameOk.l0 k (wrap64 (x3 + (wrap64 (x130001 * x130002)))) (wrap64 (x4 + 1)) x120000 x120001 x120002 x120003 x120004)
end
def spec_FrameOk.f (k : Nat) (a0_0 : Int) (a0_1 : Int) (a0_2 : Int) (a0_3 : Int) (l0_4 : List (S53)) : Option (Bool) := if a0_0 = 8 then ((spec_l01Between.f a0_1 1 256).bind fun t120 => (if t120 = true then ((spec_l01Between.f a0_2 1 256).bind fun t121 => (if t121 = true then (if (wrap64 (a0_1 * a0_2)) > 16384 then (spec_FrameOk.j0 k true a0_0 a0_1 a0_2 a0_3 l0_4) else ((spec_l01Between.f a0_3 0 255).bind fun t122 => (if t122 = true then ((spec_l01Between.f (l0_4.length : Int) 1 4).bind fun t123 => (spec_FrameOk.j0 k (!t123) a0_0 a0_1 a0_2 a0_3 l0_4)) else (spec_FrameOk.j0 k true a0_0 a0_1 a0_2 a0_3 l0_4)))) else (spec_FrameOk.j0 k true a0_0 a0_1 a0_2 a0_3 l0_4))) else (spec_FrameOk.j0 k true a0_0 a0_1 a0_2 a0_3 l0_4))) else (if a0_0 = 12 then ((spec_l01Between.f a0_1 1 256).bind fun t124 => (if t124 = true then ((spec_l01Between.f a0_2 1 256).bind fun t125 => (if t125 = true then (if (wrap64 (a0_1 * a0_2)) > 16384 then (spec_FrameOk.j0 k true a0_0 a0_1 a0_2 a0_3 l0_4) else ((spec_l01Between.f a0_3 0 255).bind fun t126 => (if t126 = true then ((spec_l01Between.f (l0_4.length : Int) 1 4).bind fun t127 => (spec_FrameOk.j0 k (!t127) a0_0 a0_1 a0_2 a0_3 l0_4)) else (spec_FrameOk.j0 k true a0_0 a0_1 a0_2 a0_3 l0_4)))) else (spec_FrameOk.j0 k true a0_0 a0_1 a0_2 a0_3 l0_4))) else (spec_FrameOk.j0 k true a0_0 a0_1 a0_2 a0_3 l0_4))) else (spec_FrameOk.j0 k true a0_0 a0_1 a0_2 a0_3 l0_4))
set_option maxHeartbeats 8000000 in
set_option maxRecDepth 100000 in
theorem spec_FrameOk.calls (k : Nat) (a0_0 : Int) (a0_1 : Int) (a0_2 : Int) (a0_3 : Int) (A0_4 : Option Addr) (c0_4 : Nat) (l0_4 : List (S53)) (r : Bool) (w : World) (hr0_4 : Kd.C k53 w A0_4 l0_4.length l0_4) (hc0_4 : l0_4.length ≤ c0_4) (h : spec_FrameOk.f k a0_0 a0_1 a0_2 a0_3 l0_4 = some r) :
  Calls Tryz.prog 36 #[.agg #[.int .i64 a0_0, .int .i64 a0_1, .int .i64 a0_2, .int .i64 a0_3, .slice A0_4 l0_4.length c0_4]] w fun e w' => e = .returned (.bool r) ∧ Below w.heap.size w w' := by
 have hu37 := Tryz.underlying37
 have hu53 := Tryz.underlying53
 have HR0_4 := zA hr0_4
 have HC0_4 := zA hc0_4
 clear hr0_4 hc0_4
 have HB := zA (Below.refl w.heap.size w)
 have H : (if a0_0 = 8 then ((spec_l01Between.f a0_1 1 256).bind fun t120 => (if t120 = true then ((spec_l01Between.f a0_2 1 256).bind fun t121 => (if t121 = true then (if (wrap64 (a0_1 * a0_2)) > 16384 then (spec_FrameOk.j0 k true a0_0 a0_1 a0_2 a0_3 l0_4) else ((spec_l01Between.f a0_3 0 255).bind fun t122 => (if t122 = true then ((spec_l01Between.f (l0_4.length : Int) 1 4).bind fun t123 => (spec_FrameOk.j0 k (!t123) a0_0 a0_1 a0_2 a0_3 l0_4)) else (spec_FrameOk.j0 k true a0_0 a0_1 a0_2 a0_3 l0_4)))) else (spec_FrameOk.j0 k true a0_0 a0_1 a0_2 a0_3 l0_4))) else (spec_FrameOk.j0 k true a0_0 a0_1 a0_2 a0_3 l0_4))) else (if a0_0 = 12 then ((spec_l01Between.f a0_1 1 256).bind fun t124 => (if t124 = true then ((spec_l01Between.f a0_2 1 256).bind fun t125 => (if t125 = true then (if (wrap64 (a0_1 * a0_2)) > 16384 then (spec_FrameOk.j0 k true a0_0 a0_1 a0_2 a0_3 l0_4) else ((spec_l01Between.f a0_3 0 255).bind fun t126 => (if t126 = true then ((spec_l01Between.f (l0_4.length : Int) 1 4).bind fun t127 => (spec_FrameOk.j0 k (!t127) a0_0 a0_1 a0_2 a0_3 l0_4)) else (spec_FrameOk.j0 k true a0_0 a0_1 a0_2 a0_3 l0_4)))) else (spec_FrameOk.j0 k true a0_0 a0_1 a0_2 a0_3 l0_4))) else (spec_FrameOk.j0 k true a0_0 a0_1 a0_2 a0_3 l0_4))) else (spec_FrameOk.j0 k true a0_0 a0_1 a0_2 a0_3 l0_4))) = some r := h
 clear h
 have HC2 := zA H
 clear H
 go_enter Tryz.func36, Tryz.ntmps36
 go_upto_region 1 with (first | ((with_reducible refine gate_dst (N := 1) rfl ?_); refine nxX (N := 1) (cs := #[.int .i64 a0_0, .int .i64 a0_1, .int .i64 a0_2, .int .i64 a0_3, .slice A0_4 l0_4.length c0_4]) (t := 37) ?_; intro gb119 hg w3 hbox hb; have BK119 := zA (hbox); have GE119 := nxG HB hg; replace HB := nxH hb HB; clear hb hbox hg))
 (try simp only [Act.put, List.setIfInBounds_toArray, List.set_cons_zero, List.set_cons_succ])
 go_cut [47] (fun v47 wc => ∃ (kq : Nat) (x47_1 : Bool), v47 = .bool x47_1 ∧ Aside0 (spec_FrameOk.j0 kq x47_1 a0_0 a0_1 a0_2 a0_3 l0_4 = some r) ∧ Aside0 (kq ≤ k) ∧ Aside0 (wc.heap[gb119]? = some (.cells #[.int .i64 a0_0, .int .i64 a0_1, .int .i64 a0_2, .int .i64 a0_3, (.slice A0_4 l0_4.length c0_4)] 37 (0, 0))) ∧ Aside0 (Below w.heap.size w wc))
 case first =>
  have H := HC2.out
  clear HC2
  by_cases c4 : a0_0 = 8
  ·rw [if_pos c4] at H
   have c4b0 : (a0_0 == 8) = true := beq_iff_eq.mpr c4
   have c4b1 : (a0_0 != 8) = false := bne_eq_false_iff_eq.mpr c4
   clear c4
   (first | rw [c4b0] | rw [c4b1] | (simp only [i64_w, i32_w]; first | rw [c4b0] | rw [c4b1]) | skip)
   replace H := Option.bind_eq_some_iff.mp H
   obtain ⟨t120, A50, H⟩ := H
   try dsimp only at H
   have A5 := zA A50
   clear A50
   by_cases c6 : t120 = true
   ·subst c6
    rw [if_pos rfl] at H
    replace H := Option.bind_eq_some_iff.mp H
    obtain ⟨t121, A70, H⟩ := H
    try dsimp only at H
    have A7 := zA A70
    clear A70
    by_cases c8 : t121 = true
    ·subst c8
     rw [if_pos rfl] at H
     by_cases c9 : (wrap64 (a0_1 * a0_2)) > 16384
     ·rw [if_pos c9] at H
      have c9b0 := zT c9
      clear c9
      have H' := zA H
      clear H
      obtain ⟨hcz10_0, hcz10_1, hcz10_2, hcz10_3, hcz10_4⟩ := cz5 BK119
      obtain ⟨hfz10_0, hfz10_1, hfz10_2, hfz10_3, hfz10_4⟩ := fz5 BK119
      go_wp2_with (first | (go_at_call 38; (with_reducible refine (spec_l01Between.calls a0_1 1 256 true _ A5.out).mono ?_); rintro e w' ⟨rfl, ⟨nd, rfl⟩⟩; (try first | exact ⟨rfl, _, World.drewN_drewN _ _ _⟩ | exact ⟨rfl, _, Eq.trans (World.drewN_drewN _ _ _) (congrArg (World.drewN _) (Nat.add_assoc _ _ _))⟩)) | (go_at_call 38; (with_reducible refine (spec_l01Between.calls a0_2 1 256 true _ A7.out).mono ?_); rintro e w' ⟨rfl, ⟨nd, rfl⟩⟩; (try first | exact ⟨rfl, _, World.drewN_drewN _ _ _⟩ | exact ⟨rfl, _, Eq.trans (World.drewN_drewN _ _ _) (congrArg (World.drewN _) (Nat.add_assoc _ _ _))⟩)))
      go_meet
      case rel => exact ⟨_, (true), rfl, H', ⟨Nat.le_refl _⟩, ⟨BK119.out⟩, ⟨nxD HB⟩⟩
     ·rw [if_neg c9] at H
      have c9b0 := decide_eq_false c9
      clear c9
      replace H := Option.bind_eq_some_iff.mp H
      obtain ⟨t122, A110, H⟩ := H
      try dsimp only at H
      have A11 := zA A110
      clear A110
      by_cases c12 : t122 = true
      ·subst c12
       rw [if_pos rfl] at H
       replace H := Option.bind_eq_some_iff.mp H
       obtain ⟨t123, A130, H⟩ := H
       try dsimp only at H
       have A13 := zA A130
       clear A130
       have H' := zA H
       clear H
       obtain ⟨hcz14_0, hcz14_1, hcz14_2, hcz14_3, hcz14_4⟩ := cz5 BK119
       obtain ⟨hfz14_0, hfz14_1, hfz14_2, hfz14_3, hfz14_4⟩ := fz5 BK119
       go_wp2_with (first | (go_at_call 38; (with_reducible refine (spec_l01Between.calls a0_1 1 256 true _ A5.out).mono ?_); rintro e w' ⟨rfl, ⟨nd, rfl⟩⟩; (try first | exact ⟨rfl, _, World.drewN_drewN _ _ _⟩ | exact ⟨rfl, _, Eq.trans (World.drewN_drewN _ _ _) (congrArg (World.drewN _) (Nat.add_assoc _ _ _))⟩)) | (go_at_call 38; (with_reducible refine (spec_l01Between.calls a0_2 1 256 true _ A7.out).mono ?_); rintro e w' ⟨rfl, ⟨nd, rfl⟩⟩; (try first | exact ⟨rfl, _, World.drewN_drewN _ _ _⟩ | exact ⟨rfl, _, Eq.trans (World.drewN_drewN _ _ _) (congrArg (World.drewN _) (Nat.add_assoc _ _ _))⟩)) | (go_at_call 38; (with_reducible refine (spec_l01Between.calls a0_3 0 255 true _ A11.out).mono ?_); rintro e w' ⟨rfl, ⟨nd, rfl⟩⟩; (try first | exact ⟨rfl, _, World.drewN_drewN _ _ _⟩ | exact ⟨rfl, _, Eq.trans (World.drewN_drewN _ _ _) (congrArg (World.drewN _) (Nat.add_assoc _ _ _))⟩)) | (go_at_call 38; (with_reducible refine (spec_l01Between.calls (l0_4.length : Int) 1 4 t123 _ A13.out).mono ?_); rintro e w' ⟨rfl, ⟨nd, rfl⟩⟩; (try first | exact ⟨rfl, _, World.drewN_drewN _ _ _⟩ | exact ⟨rfl, _, Eq.trans (World.drewN_drewN _ _ _) (congrArg (World.drewN _) (Nat.add_assoc _ _ _))⟩)))
       go_meet
       case rel => exact ⟨_, (!t123), rfl, H', ⟨Nat.le_refl _⟩, ⟨BK119.out⟩, ⟨nxD HB⟩⟩
      ·replace c12 := Bool.eq_false_iff.mpr c12
       subst c12
       rw [if_neg (show ¬ (false = true) by decide)] at H
       have H' := zA H
       clear H
       obtain ⟨hcz15_0, hcz15_1, hcz15_2, hcz15_3, hcz15_4⟩ := cz5 BK119
       obtain ⟨hfz15_0, hfz15_1, hfz15_2, hfz15_3, hfz15_4⟩ := fz5 BK119
       go_wp2_with (first | (go_at_call 38; (with_reducible refine (spec_l01Between.calls a0_1 1 256 true _ A5.out).mono ?_); rintro e w' ⟨rfl, ⟨nd, rfl⟩⟩; (try first | exact ⟨rfl, _, World.drewN_drewN _ _ _⟩ | exact ⟨rfl, _, Eq.trans (World.drewN_drewN _ _ _) (congrArg (World.drewN _) (Nat.add_assoc _ _ _))⟩)) | (go_at_call 38; (with_reducible refine (spec_l01Between.calls a0_2 1 256 true _ A7.out).mono ?_); rintro e w' ⟨rfl, ⟨nd, rfl⟩⟩; (try first | exact ⟨rfl, _, World.drewN_drewN _ _ _⟩ | exact ⟨rfl, _, Eq.trans (World.drewN_drewN _ _ _) (congrArg (World.drewN _) (Nat.add_assoc _ _ _))⟩)) | (go_at_call 38; (with_reducible refine (spec_l01Between.calls a0_3 0 255 false _ A11.out).mono ?_); rintro e w' ⟨rfl, ⟨nd, rfl⟩⟩; (try first | exact ⟨rfl, _, World.drewN_drewN _ _ _⟩ | exact ⟨rfl, _, Eq.trans (World.drewN_drewN _ _ _) (congrArg (World.drewN _) (Nat.add_assoc _ _ _))⟩)))
       go_meet
       case rel => exact ⟨_, (true), rfl, H', ⟨Nat.le_refl _⟩, ⟨BK119.out⟩, ⟨nxD HB⟩⟩
    ·replace c8 := Bool.eq_false_iff.mpr c8
     subst c8
     rw [if_neg (show ¬ (false = true) by decide)] at H
     have H' := zA H
     clear H
     obtain ⟨hcz16_0, hcz16_1, hcz16_2, hcz16_3, hcz16_4⟩ := cz5 BK119
     obtain ⟨hfz16_0, hfz16_1, hfz16_2, hfz16_3, hfz16_4⟩ := fz5 BK119
     go_wp2_with (first | (go_at_call 38; (with_reducible refine (spec_l01Between.calls a0_1 1 256 true _ A5.out).mono ?_); rintro e w' ⟨rfl, ⟨nd, rfl⟩⟩; (try first | exact ⟨rfl, _, World.drewN_drewN _ _ _⟩ | exact ⟨rfl, _, Eq.trans (World.drewN_drewN _ _ _) (congrArg (World.drewN _) (Nat.add_assoc _ _ _))⟩)) | (go_at_call 38; (with_reducible refine (spec_l01Between.calls a0_2 1 256 false _ A7.out).mono ?_); rintro e w' ⟨rfl, ⟨nd, rfl⟩⟩; (try first | exact ⟨rfl, _, World.drewN_drewN _ _ _⟩ | exact ⟨rfl, _, Eq.trans (World.drewN_drewN _ _ _) (congrArg (World.drewN _) (Nat.add_assoc _ _ _))⟩)))
     go_meet
     case rel => exact ⟨_, (true), rfl, H', ⟨Nat.le_refl _⟩, ⟨BK119.out⟩, ⟨nxD HB⟩⟩
   ·replace c6 := Bool.eq_false_iff.mpr c6
    subst c6
    rw [if_neg (show ¬ (false = true) by decide)] at H
    have H' := zA H
    clear H
    obtain ⟨hcz17_0, hcz17_1, hcz17_2, hcz17_3, hcz17_4⟩ := cz5 BK119
    obtain ⟨hfz17_0, hfz17_1, hfz17_2, hfz17_3, hfz17_4⟩ := fz5 BK119
    go_wp2_with (first | (go_at_call 38; (with_reducible refine (spec_l01Between.calls a0_1 1 256 false _ A5.out).mono ?_); rintro e w' ⟨rfl, ⟨nd, rfl⟩⟩; (try first | exact ⟨rfl, _, World.drewN_drewN _ _ _⟩ | exact ⟨rfl, _, Eq.trans (World.drewN_drewN _ _ _) (congrArg (World.drewN _) (Nat.add_assoc _ _ _))⟩)))
    go_meet
    case rel => exact ⟨_, (true), rfl, H', ⟨Nat.le_refl _⟩, ⟨BK119.out⟩, ⟨nxD HB⟩⟩
  ·rw [if_neg c4] at H
   have c4b0 : (a0_0 == 8) = false := beq_eq_false_iff_ne.mpr c4
   have c4b1 : (a0_0 != 8) = true := bne_iff_ne.mpr c4
   (first | rw [c4b0] | rw [c4b1] | (simp only [i64_w, i32_w]; first | rw [c4b0] | rw [c4b1]) | skip)
   by_cases c18 : a0_0 = 12
   ·rw [if_pos c18] at H
    have c18b0 : (a0_0 == 12) = true := beq_iff_eq.mpr c18
    have c18b1 : (a0_0 != 12) = false := bne_eq_false_iff_eq.mpr c18
    clear c18
    replace H := Option.bind_eq_some_iff.mp H
    obtain ⟨t124, A190, H⟩ := H
    try dsimp only at H
    have A19 := zA A190
    clear A190
    by_cases c20 : t124 = true
    ·subst c20
     rw [if_pos rfl] at H
     replace H := Option.bind_eq_some_iff.mp H
     obtain ⟨t125, A210, H⟩ := H
     try dsimp only at H
     have A21 := zA A210
     clear A210
     by_cases c22 : t125 = true
     ·subst c22
      rw [if_pos rfl] at H
      by_cases c23 : (wrap64 (a0_1 * a0_2)) > 16384
      ·rw [if_pos c23] at H
       have c23b0 := zT c23
       clear c23
       have H' := zA H
       clear H
       obtain ⟨hcz24_0, hcz24_1, hcz24_2, hcz24_3, hcz24_4⟩ := cz5 BK119
       obtain ⟨hfz24_0, hfz24_1, hfz24_2, hfz24_3, hfz24_4⟩ := fz5 BK119
       go_wp2_with (first | (go_at_call 38; (with_reducible refine (spec_l01Between.calls a0_1 1 256 true _ A19.out).mono ?_); rintro e w' ⟨rfl, ⟨nd, rfl⟩⟩; (try first | exact ⟨rfl, _, World.drewN_drewN _ _ _⟩ | exact ⟨rfl, _, Eq.trans (World.drewN_drewN _ _ _) (congrArg (World.drewN _) (Nat.add_assoc _ _ _))⟩)) | (go_at_call 38; (with_reducible refine (spec_l01Between.calls a0_2 1 256 true _ A21.out).mono ?_); rintro e w' ⟨rfl, ⟨nd, rfl⟩⟩; (try first | exact ⟨rfl, _, World.drewN_drewN _ _ _⟩ | exact ⟨rfl, _, Eq.trans (World.drewN_drewN _ _ _) (congrArg (World.drewN _) (Nat.add_assoc _ _ _))⟩)))
       go_meet
       case rel => exact ⟨_, (true), rfl, H', ⟨Nat.le_refl _⟩, ⟨BK119.out⟩, ⟨nxD HB⟩⟩
      ·rw [if_neg c23] at H
       have c23b0 := decide_eq_false c23
       clear c23
       replace H := Option.bind_eq_some_iff.mp H
       obtain ⟨t126, A250, H⟩ := H
       try dsimp only at H
       have A25 := zA A250
       clear A250
       by_cases c26 : t126 = true
       ·subst c26
        rw [if_pos rfl] at H
        replace H := Option.bind_eq_some_iff.mp H
        obtain ⟨t127, A270, H⟩ := H
        try dsimp only at H
        have A27 := zA A270
        clear A270
        have H' := zA H
        clear H
        obtain ⟨hcz28_0, hcz28_1, hcz28_2, hcz28_3, hcz28_4⟩ := cz5 BK119
        obtain ⟨hfz28_0, hfz28_1, hfz28_2, hfz28_3, hfz28_4⟩ := fz5 BK119
        go_wp2_with (first | (go_at_call 38; (with_reducible refine (spec_l01Between.calls a0_1 1 256 true _ A19.out).mono ?_); rintro e w' ⟨rfl, ⟨nd, rfl⟩⟩; (try first | exact ⟨rfl, _, World.drewN_drewN _ _ _⟩ | exact ⟨rfl, _, Eq.trans (World.drewN_drewN _ _ _) (congrArg (World.drewN _) (Nat.add_assoc _ _ _))⟩)) | (go_at_call 38; (with_reducible refine (spec_l01Between.calls a0_2 1 256 true _ A21.out).mono ?_); rintro e w' ⟨rfl, ⟨nd, rfl⟩⟩; (try first | exact ⟨rfl, _, World.drewN_drewN _ _ _⟩ | exact ⟨rfl, _, Eq.trans (World.drewN_drewN _ _ _) (congrArg (World.drewN _) (Nat.add_assoc _ _ _))⟩)) | (go_at_call 38; (with_reducible refine (spec_l01Between.calls a0_3 0 255 true _ A25.out).mono ?_); rintro e w' ⟨rfl, ⟨nd, rfl⟩⟩; (try first | exact ⟨rfl, _, World.drewN_drewN _ _ _⟩ | exact ⟨rfl, _, Eq.trans (World.drewN_drewN _ _ _) (congrArg (World.drewN _) (Nat.add_assoc _ _ _))⟩)) | (go_at_call 38; (with_reducible refine (spec_l01Between.calls (l0_4.length : Int) 1 4 t127 _ A27.out).mono ?_); rintro e w' ⟨rfl, ⟨nd, rfl⟩⟩; (try first | exact ⟨rfl, _, World.drewN_drewN _ _ _⟩ | exact ⟨rfl, _, Eq.trans (World.drewN_drewN _ _ _) (congrArg (World.drewN _) (Nat.add_assoc _ _ _))⟩)))
        go_meet
        case rel => exact ⟨_, (!t127), rfl, H', ⟨Nat.le_refl _⟩, ⟨BK119.out⟩, ⟨nxD HB⟩⟩
       ·replace c26 := Bool.eq_false_iff.mpr c26
        subst c26
        rw [if_neg (show ¬ (false = true) by decide)] at H
        have H' := zA H
        clear H
        obtain ⟨hcz29_0, hcz29_1, hcz29_2, hcz29_3, hcz29_4⟩ := cz5 BK119
        obtain ⟨hfz29_0, hfz29_1, hfz29_2, hfz29_3, hfz29_4⟩ := fz5 BK119
        go_wp2_with (first | (go_at_call 38; (with_reducible refine (spec_l01Between.calls a0_1 1 256 true _ A19.out).mono ?_); rintro e w' ⟨rfl, ⟨nd, rfl⟩⟩; (try first | exact ⟨rfl, _, World.drewN_drewN _ _ _⟩ | exact ⟨rfl, _, Eq.trans (World.drewN_drewN _ _ _) (congrArg (World.drewN _) (Nat.add_assoc _ _ _))⟩)) | (go_at_call 38; (with_reducible refine (spec_l01Between.calls a0_2 1 256 true _ A21.out).mono ?_); rintro e w' ⟨rfl, ⟨nd, rfl⟩⟩; (try first | exact ⟨rfl, _, World.drewN_drewN _ _ _⟩ | exact ⟨rfl, _, Eq.trans (World.drewN_drewN _ _ _) (congrArg (World.drewN _) (Nat.add_assoc _ _ _))⟩)) | (go_at_call 38; (with_reducible refine (spec_l01Between.calls a0_3 0 255 false _ A25.out).mono ?_); rintro e w' ⟨rfl, ⟨nd, rfl⟩⟩; (try first | exact ⟨rfl, _, World.drewN_drewN _ _ _⟩ | exact ⟨rfl, _, Eq.trans (World.drewN_drewN _ _ _) (congrArg (World.drewN _) (Nat.add_assoc _ _ _))⟩)))
        go_meet
        case rel => exact ⟨_, (true), rfl, H', ⟨Nat.le_refl _⟩, ⟨BK119.out⟩, ⟨nxD HB⟩⟩
     ·replace c22 := Bool.eq_false_iff.mpr c22
      subst c22
      rw [if_neg (show ¬ (false = true) by decide)] at H
      have H' := zA H
      clear H
      obtain ⟨hcz30_0, hcz30_1, hcz30_2, hcz30_3, hcz30_4⟩ := cz5 BK119
      obtain ⟨hfz30_0, hfz30_1, hfz30_2, hfz30_3, hfz30_4⟩ := fz5 BK119
      go_wp2_with (first | (go_at_call 38; (with_reducible refine (spec_l01Between.calls a0_1 1 256 true _ A19.out).mono ?_); rintro e w' ⟨rfl, ⟨nd, rfl⟩⟩; (try first | exact ⟨rfl, _, World.drewN_drewN _ _ _⟩ | exact ⟨rfl, _, Eq.trans (World.drewN_drewN _ _ _) (congrArg (World.drewN _) (Nat.add_assoc _ _ _))⟩)) | (go_at_call 38; (with_reducible refine (spec_l01Between.calls a0_2 1 256 false _ A21.out).mono ?_); rintro e w' ⟨rfl, ⟨nd, rfl⟩⟩; (try first | exact ⟨rfl, _, World.drewN_drewN _ _ _⟩ | exact ⟨rfl, _, Eq.trans (World.drewN_drewN _ _ _) (congrArg (World.drewN _) (Nat.add_assoc _ _ _))⟩)))
      go_meet
      case rel => exact ⟨_, (true), rfl, H', ⟨Nat.le_refl _⟩, ⟨BK119.out⟩, ⟨nxD HB⟩⟩
    ·replace c20 := Bool.eq_false_iff.mpr c20
     subst c20
     rw [if_neg (show ¬ (false = true) by decide)] at H
     have H' := zA H
     clear H
     obtain ⟨hcz31_0, hcz31_1, hcz31_2, hcz31_3, hcz31_4⟩ := cz5 BK119
     obtain ⟨hfz31_0, hfz31_1, hfz31_2, hfz31_3, hfz31_4⟩ := fz5 BK119
     go_wp2_with (first | (go_at_call 38; (with_reducible refine (spec_l01Between.calls a0_1 1 256 false _ A19.out).mono ?_); rintro e w' ⟨rfl, ⟨nd, rfl⟩⟩; (try first | exact ⟨rfl, _, World.drewN_drewN _ _ _⟩ | exact ⟨rfl, _, Eq.trans (World.drewN_drewN _ _ _) (congrArg (World.drewN _) (Nat.add_assoc _ _ _))⟩)))
     go_meet
     case rel => exact ⟨_, (true), rfl, H', ⟨Nat.le_refl _⟩, ⟨BK119.out⟩, ⟨nxD HB⟩⟩
   ·rw [if_neg c18] at H
    have c18b0 : (a0_0 == 12) = false := beq_eq_false_iff_ne.mpr c18
    have c18b1 : (a0_0 != 12) = true := bne_iff_ne.mpr c18
    have H' := zA H
    clear H
    obtain ⟨hcz32_0, hcz32_1, hcz32_2, hcz32_3, hcz32_4⟩ := cz5 BK119
    obtain ⟨hfz32_0, hfz32_1, hfz32_2, hfz32_3, hfz32_4⟩ := fz5 BK119
    go_wp2
    repeat (go_quiet (fail); try go_wp2)
    go_meet
    case rel => exact ⟨_, (true), rfl, H', ⟨Nat.le_refl _⟩, ⟨BK119.out⟩, ⟨nxD HB⟩⟩
 case rest =>
  clear HC2
  obtain ⟨kq, x47_1, rfl, HA, HJ1, BK119, HB⟩ := hcut
  cases kq with
  | zero => exact absurd HA.out (by simp [spec_FrameOk.j0])
  | succ kj1 =>
   have H := HA.out
   clear HA
   simp only [spec_FrameOk.j0] at H
   by_cases c33 : x47_1 = true
   ·subst c33
    rw [if_pos rfl] at H
    obtain rfl := Option.some.inj H
    go_wp2
    repeat (go_quiet (fail); try go_wp2)
    go_ret
    exact ⟨rfl, nxD HB⟩
   ·replace c33 := Bool.eq_false_iff.mpr c33
    subst c33
    rw [if_neg (show ¬ (false = true) by decide)] at H
    have H' := zA H
    clear H
    go_wp2
    repeat (go_quiet (fail); try go_wp2)
    go_loopg [3, 4] kj1 (fun kq v3 v4 w' => ∃ (x3_2 : Int) (x4_2 : Int), v3 = .int .i64 x3_2 ∧ v4 = .int .i64 x4_2 ∧ Aside0 (spec_FrameOk.l0 kq x3_2 x4_2 a0_0 a0_1 a0_2 a0_3 l0_4 = some r) ∧ Aside0 (kq ≤ kj1) ∧ Aside0 (w'.heap[gb119]? = some (.cells #[.int .i64 a0_0, .int .i64 a0_1, .int .i64 a0_2, .int .i64 a0_3, (.slice A0_4 l0_4.length c0_4)] 37 (0, 0))) ∧ Aside0 (Below w.heap.size w w'))
    case atStart => exact ⟨(0), (0), rfl, rfl, H', ⟨Nat.le_refl _⟩, ⟨BK119.out⟩, ⟨nxD HB⟩⟩
    case round =>
     clear H'
     obtain ⟨x3_2, x4_2, rfl, rfl, HA, HK2, BK119, HB⟩ := hrel
     cases gk with
     | zero => exact absurd HA.out (by simp [spec_FrameOk.l0])
     | succ k2 =>
      have H := HA.out
      clear HA
      simp only [spec_FrameOk.l0] at H
      by_cases c34 : x4_2 < (l0_4.length : Int)
      ·rw [if_pos c34] at H
       have c34b0 := zT c34
       clear c34
       by_cases c35 : 0 ≤ x4_2
       ·rw [if_pos c35] at H
        have c35b0 := zT c35
        clear c35
        have HC36 := zA H
        clear H
        obtain ⟨hcz37_0, hcz37_1, hcz37_2, hcz37_3, hcz37_4⟩ := cz5 BK119
        obtain ⟨hfz37_0, hfz37_1, hfz37_2, hfz37_3, hfz37_4⟩ := fz5 BK119
        have p128 : 0 ≤ (x4_2 : Int) := zI (by first | (with_reducible assumption) | assumption)
        have q128 : x4_2 < (l0_4.length : Int) := zI (by first | (with_reducible assumption) | assumption)
        obtain ⟨ad128, e128, hx128_0, hx128_1, hx128_2, hx128_3⟩ := at_T53 HR0_4.out x4_2 p128 q128
        cases e128
        replace hx128_0 := (HB.out.cell (World.block_lt_of_cell? w _ hx128_0)).trans hx128_0
        replace hx128_1 := (HB.out.cell (World.block_lt_of_cell? w _ hx128_1)).trans hx128_1
        replace hx128_2 := (HB.out.cell (World.block_lt_of_cell? w _ hx128_2)).trans hx128_2
        replace hx128_3 := (HB.out.cell (World.block_lt_of_cell? w _ hx128_3)).trans hx128_3
        replace p128 := eq_true p128
        replace q128 := eq_true q128
        go_upto_region 8 with (first | ((with_reducible refine gate_dst (N := 5) rfl ?_); refine nxX (N := 5) (cs := #[.int .i64 0, .int .i64 0, .int .i64 0, .int .i64 0]) (t := 53) ?_; intro gb129 hg w38 hbox hb; have BK129 := zA (hbox); have GE129 := nxG HB hg; have NB119_129 := nxL BK119 hg; have NB129_119 := nxK BK119 hg; replace BK119 := nxB hb BK119; replace HB := nxH hb HB; clear hb hbox hg; have hnb39 := NB129_119.out; have hnc39 := NB119_129.out; obtain ⟨hcz40_0, hcz40_1, hcz40_2, hcz40_3⟩ := cz4 BK129; obtain ⟨hfz40_0, hfz40_1, hfz40_2, hfz40_3⟩ := fz4 BK129))
        (try simp only [Act.put, List.setIfInBounds_toArray, List.set_cons_zero, List.set_cons_succ])
        go_cut [81] (fun v81 wc => ∃ (kq : Nat) (x81_35 : Bool), v81 = .bool x81_35 ∧ Aside0 (spec_FrameOk.j2 kq x3_2 x4_2 x81_35 a0_0 a0_1 a0_2 a0_3 l0_4 ((rd_T53 l0_4 x4_2).f0) ((rd_T53 l0_4 x4_2).f1) ((rd_T53 l0_4 x4_2).f2) ((rd_T53 l0_4 x4_2).f3) = some r) ∧ Aside0 (kq ≤ k2) ∧ Aside0 (wc.heap[gb119]? = some (.cells #[.int .i64 a0_0, .int .i64 a0_1, .int .i64 a0_2, .int .i64 a0_3, (.slice (some ad128) l0_4.length c0_4)] 37 (0, 0))) ∧ Aside0 (wc.heap[gb129]? = some (.cells #[.int .i64 ((rd_T53 l0_4 x4_2).f0), .int .i64 ((rd_T53 l0_4 x4_2).f1), .int .i64 ((rd_T53 l0_4 x4_2).f2), .int .i64 ((rd_T53 l0_4 x4_2).f3)] 53 (0, 0))) ∧ Aside0 (Below w.heap.size w wc))
        case first =>
         have H := HC36.out
         clear HC36
         replace H := Option.bind_eq_some_iff.mp H
         obtain ⟨t130, A410, H⟩ := H
         try dsimp only at H
         have A41 := zA A410
         clear A410
         by_cases c42 : t130 = true
         ·subst c42
          rw [if_pos rfl] at H
          replace H := Option.bind_eq_some_iff.mp H
          obtain ⟨t131, A430, H⟩ := H
          try dsimp only at H
          have A43 := zA A430
          clear A430
          by_cases c44 : t131 = true
          ·subst c44
           rw [if_pos rfl] at H
           replace H := Option.bind_eq_some_iff.mp H
           obtain ⟨t132, A450, H⟩ := H
           try dsimp only at H
           have A45 := zA A450
           clear A450
           by_cases c46 : t132 = true
           ·subst c46
            rw [if_pos rfl] at H
            replace H := Option.bind_eq_some_iff.mp H
            obtain ⟨t133, A470, H⟩ := H
            try dsimp only at H
            have A47 := zA A470
            clear A470
            have H' := zA H
            clear H
            have hnb48 := NB129_119.out
            have hnc48 := NB119_129.out
            obtain ⟨hcz49_0, hcz49_1, hcz49_2, hcz49_3⟩ := cz4 BK129
            obtain ⟨hfz49_0, hfz49_1, hfz49_2, hfz49_3⟩ := fz4 BK129
            go_wp2_with (first | (go_at_call 38; (with_reducible refine (spec_l01Between.calls ((rd_T53 l0_4 x4_2).f0) 0 255 true _ A41.out).mono ?_); rintro e w' ⟨rfl, ⟨nd, rfl⟩⟩; (try first | exact ⟨rfl, _, World.drewN_drewN _ _ _⟩ | exact ⟨rfl, _, Eq.trans (World.drewN_drewN _ _ _) (congrArg (World.drewN _) (Nat.add_assoc _ _ _))⟩)) | (go_at_call 38; (with_reducible refine (spec_l01Between.calls ((rd_T53 l0_4 x4_2).f1) 1 4 true _ A43.out).mono ?_); rintro e w' ⟨rfl, ⟨nd, rfl⟩⟩; (try first | exact ⟨rfl, _, World.drewN_drewN _ _ _⟩ | exact ⟨rfl, _, Eq.trans (World.drewN_drewN _ _ _) (congrArg (World.drewN _) (Nat.add_assoc _ _ _))⟩)) | (go_at_call 38; (with_reducible refine (spec_l01Between.calls ((rd_T53 l0_4 x4_2).f2) 1 4 true _ A45.out).mono ?_); rintro e w' ⟨rfl, ⟨nd, rfl⟩⟩; (try first | exact ⟨rfl, _, World.drewN_drewN _ _ _⟩ | exact ⟨rfl, _, Eq.trans (World.drewN_drewN _ _ _) (congrArg (World.drewN _) (Nat.add_assoc _ _ _))⟩)) | (go_at_call 38; (with_reducible refine (spec_l01Between.calls ((rd_T53 l0_4 x4_2).f3) 0 3 t133 _ A47.out).mono ?_); rintro e w' ⟨rfl, ⟨nd, rfl⟩⟩; (try first | exact ⟨rfl, _, World.drewN_drewN _ _ _⟩ | exact ⟨rfl, _, Eq.trans (World.drewN_drewN _ _ _) (congrArg (World.drewN _) (Nat.add_assoc _ _ _))⟩)))
            go_meet
            case rel => exact ⟨_, (!t133), rfl, H', ⟨by have := HJ1.out; have := HK2.out; first | omega | exact Nat.le_refl _⟩, ⟨by (with_reducible repeat (first | refine zG ?_ _ | refine zH ?_ | refine zD ?_ _)); refine blk_far ?_ NB119_129.out _; (with_reducible repeat (first | refine zG ?_ _ | refine zH ?_ | refine zD ?_ _)); refine blk_far ?_ NB119_129.out _; (with_reducible repeat (first | refine zG ?_ _ | refine zH ?_ | refine zD ?_ _)); refine blk_far ?_ NB119_129.out _; (with_reducible repeat (first | refine zG ?_ _ | refine zH ?_ | refine zD ?_ _)); refine blk_far ?_ NB119_129.out _; (with_reducible repeat (first | refine zG ?_ _ | refine zH ?_ | refine zD ?_ _)); exact BK119.out⟩, ⟨by (with_reducible repeat (first | refine zG ?_ _ | refine zH ?_ | refine zD ?_ _)); refine blk_put (cs := #[.int .i64 ((rd_T53 l0_4 x4_2).f0), .int .i64 ((rd_T53 l0_4 x4_2).f1), .int .i64 ((rd_T53 l0_4 x4_2).f2), .int .i64 0]) ?_ 3 _ rfl; (with_reducible repeat (first | refine zG ?_ _ | refine zH ?_ | refine zD ?_ _)); refine blk_put (cs := #[.int .i64 ((rd_T53 l0_4 x4_2).f0), .int .i64 ((rd_T53 l0_4 x4_2).f1), .int .i64 0, .int .i64 0]) ?_ 2 _ rfl; (with_reducible repeat (first | refine zG ?_ _ | refine zH ?_ | refine zD ?_ _)); refine blk_put (cs := #[.int .i64 ((rd_T53 l0_4 x4_2).f0), .int .i64 0, .int .i64 0, .int .i64 0]) ?_ 1 _ rfl; (with_reducible repeat (first | refine zG ?_ _ | refine zH ?_ | refine zD ?_ _)); refine blk_put (cs := #[.int .i64 0, .int .i64 0, .int .i64 0, .int .i64 0]) ?_ 0 _ rfl; (with_reducible repeat (first | refine zG ?_ _ | refine zH ?_ | refine zD ?_ _)); exact BK129.out⟩, ⟨by repeat (first | (with_reducible first | exact HB.out | apply zC | apply zB | apply zF | refine zE ?_ GE119.out | refine zE ?_ GE129.out) | exact HB.out)⟩⟩
           ·replace c46 := Bool.eq_false_iff.mpr c46
            subst c46
            rw [if_neg (show ¬ (false = true) by decide)] at H
            have H' := zA H
            clear H
            have hnb50 := NB129_119.out
            have hnc50 := NB119_129.out
            obtain ⟨hcz51_0, hcz51_1, hcz51_2, hcz51_3⟩ := cz4 BK129
            obtain ⟨hfz51_0, hfz51_1, hfz51_2, hfz51_3⟩ := fz4 BK129
            go_wp2_with (first | (go_at_call 38; (with_reducible refine (spec_l01Between.calls ((rd_T53 l0_4 x4_2).f0) 0 255 true _ A41.out).mono ?_); rintro e w' ⟨rfl, ⟨nd, rfl⟩⟩; (try first | exact ⟨rfl, _, World.drewN_drewN _ _ _⟩ | exact ⟨rfl, _, Eq.trans (World.drewN_drewN _ _ _) (congrArg (World.drewN _) (Nat.add_assoc _ _ _))⟩)) | (go_at_call 38; (with_reducible refine (spec_l01Between.calls ((rd_T53 l0_4 x4_2).f1) 1 4 true _ A43.out).mono ?_); rintro e w' ⟨rfl, ⟨nd, rfl⟩⟩; (try first | exact ⟨rfl, _, World.drewN_drewN _ _ _⟩ | exact ⟨rfl, _, Eq.trans (World.drewN_drewN _ _ _) (congrArg (World.drewN _) (Nat.add_assoc _ _ _))⟩)) | (go_at_call 38; (with_reducible refine (spec_l01Between.calls ((rd_T53 l0_4 x4_2).f2) 1 4 false _ A45.out).mono ?_); rintro e w' ⟨rfl, ⟨nd, rfl⟩⟩; (try first | exact ⟨rfl, _, World.drewN_drewN _ _ _⟩ | exact ⟨rfl, _, Eq.trans (World.drewN_drewN _ _ _) (congrArg (World.drewN _) (Nat.add_assoc _ _ _))⟩)))
            go_meet
            case rel => exact ⟨_, (true), rfl, H', ⟨by have := HJ1.out; have := HK2.out; first | omega | exact Nat.le_refl _⟩, ⟨by (with_reducible repeat (first | refine zG ?_ _ | refine zH ?_ | refine zD ?_ _)); refine blk_far ?_ NB119_129.out _; (with_reducible repeat (first | refine zG ?_ _ | refine zH ?_ | refine zD ?_ _)); refine blk_far ?_ NB119_129.out _; (with_reducible repeat (first | refine zG ?_ _ | refine zH ?_ | refine zD ?_ _)); refine blk_far ?_ NB119_129.out _; (with_reducible repeat (first | refine zG ?_ _ | refine zH ?_ | refine zD ?_ _)); refine blk_far ?_ NB119_129.out _; (with_reducible repeat (first | refine zG ?_ _ | refine zH ?_ | refine zD ?_ _)); exact BK119.out⟩, ⟨by (with_reducible repeat (first | refine zG ?_ _ | refine zH ?_ | refine zD ?_ _)); refine blk_put (cs := #[.int .i64 ((rd_T53 l0_4 x4_2).f0), .int .i64 ((rd_T53 l0_4 x4_2).f1), .int .i64 ((rd_T53 l0_4 x4_2).f2), .int .i64 0]) ?_ 3 _ rfl; (with_reducible repeat (first | refine zG ?_ _ | refine zH ?_ | refine zD ?_ _)); refine blk_put (cs := #[.int .i64 ((rd_T53 l0_4 x4_2).f0), .int .i64 ((rd_T53 l0_4 x4_2).f1), .int .i64 0, .int .i64 0]) ?_ 2 _ rfl; (with_reducible repeat (first | refine zG ?_ _ | refine zH ?_ | refine zD ?_ _)); refine blk_put (cs := #[.int .i64 ((rd_T53 l0_4 x4_2).f0), .int .i64 0, .int .i64 0, .int .i64 0]) ?_ 1 _ rfl; (with_reducible repeat (first | refine zG ?_ _ | refine zH ?_ | refine zD ?_ _)); refine blk_put (cs := #[.int .i64 0, .int .i64 0, .int .i64 0, .int .i64 0]) ?_ 0 _ rfl; (with_reducible repeat (first | refine zG ?_ _ | refine zH ?_ | refine zD ?_ _)); exact BK129.out⟩, ⟨by repeat (first | (with_reducible first | exact HB.out | apply zC | apply zB | apply zF | refine zE ?_ GE119.out | refine zE ?_ GE129.out) | exact HB.out)⟩⟩
          ·replace c44 := Bool.eq_false_iff.mpr c44
           subst c44
           rw [if_neg (show ¬ (false = true) by decide)] at H
           have H' := zA H
           clear H
           have hnb52 := NB129_119.out
           have hnc52 := NB119_129.out
           obtain ⟨hcz53_0, hcz53_1, hcz53_2, hcz53_3⟩ := cz4 BK129
           obtain ⟨hfz53_0, hfz53_1, hfz53_2, hfz53_3⟩ := fz4 BK129
           go_wp2_with (first | (go_at_call 38; (with_reducible refine (spec_l01Between.calls ((rd_T53 l0_4 x4_2).f0) 0 255 true _ A41.out).mono ?_); rintro e w' ⟨rfl, ⟨nd, rfl⟩⟩; (try first | exact ⟨rfl, _, World.drewN_drewN _ _ _⟩ | exact ⟨rfl, _, Eq.trans (World.drewN_drewN _ _ _) (congrArg (World.drewN _) (Nat.add_assoc _ _ _))⟩)) | (go_at_call 38; (with_reducible refine (spec_l01Between.calls ((rd_T53 l0_4 x4_2).f1) 1 4 false _ A43.out).mono ?_); rintro e w' ⟨rfl, ⟨nd, rfl⟩⟩; (try first | exact ⟨rfl, _, World.drewN_drewN _ _ _⟩ | exact ⟨rfl, _, Eq.trans (World.drewN_drewN _ _ _) (congrArg (World.drewN _) (Nat.add_assoc _ _ _))⟩)))
           go_meet
           case rel => exact ⟨_, (true), rfl, H', ⟨by have := HJ1.out; have := HK2.out; first | omega | exact Nat.le_refl _⟩, ⟨by (with_reducible repeat (first | refine zG ?_ _ | refine zH ?_ | refine zD ?_ _)); refine blk_far ?_ NB119_129.out _; (with_reducible repeat (first | refine zG ?_ _ | refine zH ?_ | refine zD ?_ _)); refine blk_far ?_ NB119_129.out _; (with_reducible repeat (first | refine zG ?_ _ | refine zH ?_ | refine zD ?_ _)); refine blk_far ?_ NB119_129.out _; (with_reducible repeat (first | refine zG ?_ _ | refine zH ?_ | refine zD ?_ _)); refine blk_far ?_ NB119_129.out _; (with_reducible repeat (first | refine zG ?_ _ | refine zH ?_ | refine zD ?_ _)); exact BK119.out⟩, ⟨by (with_reducible repeat (first | refine zG ?_ _ | refine zH ?_ | refine zD ?_ _)); refine blk_put (cs := #[.int .i64 ((rd_T53 l0_4 x4_2).f0), .int .i64 ((rd_T53 l0_4 x4_2).f1), .int .i64 ((rd_T53 l0_4 x4_2).f2), .int .i64 0]) ?_ 3 _ rfl; (with_reducible repeat (first | refine zG ?_ _ | refine zH ?_ | refine zD ?_ _)); refine blk_put (cs := #[.int .i64 ((rd_T53 l0_4 x4_2).f0), .int .i64 ((rd_T53 l0_4 x4_2).f1), .int .i64 0, .int .i64 0]) ?_ 2 _ rfl; (with_reducible repeat (first | refine zG ?_ _ | refine zH ?_ | refine zD ?_ _)); refine blk_put (cs := #[.int .i64 ((rd_T53 l0_4 x4_2).f0), .int .i64 0, .int .i64 0, .int .i64 0]) ?_ 1 _ rfl; (with_reducible repeat (first | refine zG ?_ _ | refine zH ?_ | refine zD ?_ _)); refine blk_put (cs := #[.int .i64 0, .int .i64 0, .int .i64 0, .int .i64 0]) ?_ 0 _ rfl; (with_reducible repeat (first | refine zG ?_ _ | refine zH ?_ | refine zD ?_ _)); exact BK129.out⟩, ⟨by repeat (first | (with_reducible first | exact HB.out | apply zC | apply zB | apply zF | refine zE ?_ GE119.out | refine zE ?_ GE129.out) | exact HB.out)⟩⟩
         ·replace c42 := Bool.eq_false_iff.mpr c42
          subst c42
          rw [if_neg (show ¬ (false = true) by decide)] at H
          have H' := zA H
          clear H
          have hnb54 := NB129_119.out
          have hnc54 := NB119_129.out
          obtain ⟨hcz55_0, hcz55_1, hcz55_2, hcz55_3⟩ := cz4 BK129
          obtain ⟨hfz55_0, hfz55_1, hfz55_2, hfz55_3⟩ := fz4 BK129
          go_wp2_with (first | (go_at_call 38; (with_reducible refine (spec_l01Between.calls ((rd_T53 l0_4 x4_2).f0) 0 255 false _ A41.out).mono ?_); rintro e w' ⟨rfl, ⟨nd, rfl⟩⟩; (try first | exact ⟨rfl, _, World.drewN_drewN _ _ _⟩ | exact ⟨rfl, _, Eq.trans (World.drewN_drewN _ _ _) (congrArg (World.drewN _) (Nat.add_assoc _ _ _))⟩)))
          go_meet
          case rel => exact ⟨_, (true), rfl, H', ⟨by have := HJ1.out; have := HK2.out; first | omega | exact Nat.le_refl _⟩, ⟨by (with_reducible repeat (first | refine zG ?_ _ | refine zH ?_ | refine zD ?_ _)); refine blk_far ?_ NB119_129.out _; (with_reducible repeat (first | refine zG ?_ _ | refine zH ?_ | refine zD ?_ _)); refine blk_far ?_ NB119_129.out _; (with_reducible repeat (first | refine zG ?_ _ | refine zH ?_ | refine zD ?_ _)); refine blk_far ?_ NB119_129.out _; (with_reducible repeat (first | refine zG ?_ _ | refine zH ?_ | refine zD ?_ _)); refine blk_far ?_ NB119_129.out _; (with_reducible repeat (first | refine zG ?_ _ | refine zH ?_ | refine zD ?_ _)); exact BK119.out⟩, ⟨by (with_reducible repeat (first | refine zG ?_ _ | refine zH ?_ | refine zD ?_ _)); refine blk_put (cs := #[.int .i64 ((rd_T53 l0_4 x4_2).f0), .int .i64 ((rd_T53 l0_4 x4_2).f1), .int .i64 ((rd_T53 l0_4 x4_2).f2), .int .i64 0]) ?_ 3 _ rfl; (with_reducible repeat (first | refine zG ?_ _ | refine zH ?_ | refine zD ?_ _)); refine blk_put (cs := #[.int .i64 ((rd_T53 l0_4 x4_2).f0), .int .i64 ((rd_T53 l0_4 x4_2).f1), .int .i64 0, .int .i64 0]) ?_ 2 _ rfl; (with_reducible repeat (first | refine zG ?_ _ | refine zH ?_ | refine zD ?_ _)); refine blk_put (cs := #[.int .i64 ((rd_T53 l0_4 x4_2).f0), .int .i64 0, .int .i64 0, .int .i64 0]) ?_ 1 _ rfl; (with_reducible repeat (first | refine zG ?_ _ | refine zH ?_ | refine zD ?_ _)); refine blk_put (cs := #[.int .i64 0, .int .i64 0, .int .i64 0, .int .i64 0]) ?_ 0 _ rfl; (with_reducible repeat (first | refine zG ?_ _ | refine zH ?_ | refine zD ?_ _)); exact BK129.out⟩, ⟨by repeat (first | (with_reducible first | exact HB.out | apply zC | apply zB | apply zF | refine zE ?_ GE119.out | refine zE ?_ GE129.out) | exact HB.out)⟩⟩
        case rest =>
         clear HC36
         obtain ⟨kq, x81_35, rfl, HA, HJ35, BK119, BK129, HB⟩ := hcut
         cases kq with
         | zero => exact absurd HA.out (by simp [spec_FrameOk.j2])
         | succ kj35 =>
          have H := HA.out
          clear HA
          simp only [spec_FrameOk.j2] at H
          by_cases c56 : x81_35 = true
          ·subst c56
           rw [if_pos rfl] at H
           obtain rfl := Option.some.inj H
           go_wp2
           repeat (go_quiet (fail); try go_wp2)
           go_ret
           exact ⟨rfl, nxD HB⟩
          ·replace c56 := Bool.eq_false_iff.mpr c56
           subst c56
           rw [if_neg (show ¬ (false = true) by decide)] at H
           have H' := zA H
           clear H
           go_wp2
           repeat (go_quiet (fail); try go_wp2)
           go_loopg [6] kj35 (fun kq v6 w' => ∃ (x6_4 : Int), v6 = .int .i64 x6_4 ∧ Aside0 (spec_FrameOk.l1 kq x3_2 x4_2 x6_4 a0_0 a0_1 a0_2 a0_3 l0_4 ((rd_T53 l0_4 x4_2).f0) ((rd_T53 l0_4 x4_2).f1) ((rd_T53 l0_4 x4_2).f2) ((rd_T53 l0_4 x4_2).f3) = some r) ∧ Aside0 (kq ≤ kj35) ∧ Aside0 (w'.heap[gb119]? = some (.cells #[.int .i64 a0_0, .int .i64 a0_1, .int .i64 a0_2, .int .i64 a0_3, (.slice (some ad128) l0_4.length c0_4)] 37 (0, 0))) ∧ Aside0 (w'.heap[gb129]? = some (.cells #[.int .i64 ((rd_T53 l0_4 x4_2).f0), .int .i64 ((rd_T53 l0_4 x4_2).f1), .int .i64 ((rd_T53 l0_4 x4_2).f2), .int .i64 ((rd_T53 l0_4 x4_2).f3)] 53 (0, 0))) ∧ Aside0 (Below w.heap.size w w'))
           case atStart => exact ⟨(0), rfl, H', ⟨Nat.le_refl _⟩, ⟨BK119.out⟩, ⟨BK129.out⟩, ⟨nxD HB⟩⟩
           case round =>
            clear H'
            obtain ⟨x6_4, rfl, HA, HK4, BK119, BK129, HB⟩ := hrel
            cases gk with
            | zero => exact absurd HA.out (by simp [spec_FrameOk.l1])
            | succ k4 =>
             have H := HA.out
             clear HA
             simp only [spec_FrameOk.l1] at H
             by_cases c57 : x6_4 < x4_2
             ·rw [if_pos c57] at H
              have c57b0 := zT c57
              clear c57
              by_cases c58 : 0 ≤ x6_4
              ·rw [if_pos c58] at H
               have c58b0 := zT c58
               clear c58
               by_cases c59 : x6_4 < (l0_4.length : Int)
               ·rw [if_pos c59] at H
                have c59b0 := zT c59
                clear c59
                by_cases c60 : ((rd_T53 l0_4 x6_4).f0) = ((rd_T53 l0_4 x4_2).f0)
                ·rw [if_pos c60] at H
                 have c60b0 : (((rd_T53 l0_4 x6_4).f0) == ((rd_T53 l0_4 x4_2).f0)) = true := beq_iff_eq.mpr c60
                 have c60b1 : (((rd_T53 l0_4 x6_4).f0) != ((rd_T53 l0_4 x4_2).f0)) = false := bne_eq_false_iff_eq.mpr c60
                 clear c60
                 obtain rfl := Option.some.inj H
                 have hnb61 := NB119_129.out
                 have hnc61 := NB129_119.out
                 obtain ⟨hcz62_0, hcz62_1, hcz62_2, hcz62_3, hcz62_4⟩ := cz5 BK119
                 obtain ⟨hfz62_0, hfz62_1, hfz62_2, hfz62_3, hfz62_4⟩ := fz5 BK119
                 have p134 : 0 ≤ (x6_4 : Int) := zI (by first | (with_reducible assumption) | assumption)
                 have q134 : x6_4 < (l0_4.length : Int) := zI (by first | (with_reducible assumption) | assumption)
                 obtain ⟨ad134, e134, hx134_0, hx134_1, hx134_2, hx134_3⟩ := at_T53 HR0_4.out x6_4 p134 q134
                 obtain rfl : ad128 = ad134 := (by injection e134)
                 replace hx134_0 := (HB.out.cell (World.block_lt_of_cell? w _ hx134_0)).trans hx134_0
                 replace hx134_1 := (HB.out.cell (World.block_lt_of_cell? w _ hx134_1)).trans hx134_1
                 replace hx134_2 := (HB.out.cell (World.block_lt_of_cell? w _ hx134_2)).trans hx134_2
                 replace hx134_3 := (HB.out.cell (World.block_lt_of_cell? w _ hx134_3)).trans hx134_3
                 replace p134 := eq_true p134
                 replace q134 := eq_true q134
                 obtain ⟨hcz63_0, hcz63_1, hcz63_2, hcz63_3⟩ := cz4 BK129
                 obtain ⟨hfz63_0, hfz63_1, hfz63_2, hfz63_3⟩ := fz4 BK129
                 go_wp2
                 repeat (go_quiet (fail); try go_wp2)
                 go_ret
                 exact ⟨rfl, nxD HB⟩
                ·rw [if_neg c60] at H
                 have c60b0 : (((rd_T53 l0_4 x6_4).f0) == ((rd_T53 l0_4 x4_2).f0)) = false := beq_eq_false_iff_ne.mpr c60
                 have c60b1 : (((rd_T53 l0_4 x6_4).f0) != ((rd_T53 l0_4 x4_2).f0)) = true := bne_iff_ne.mpr c60
                 have H' := zA H
                 clear H
                 have hnb64 := NB119_129.out
                 have hnc64 := NB129_119.out
                 obtain ⟨hcz65_0, hcz65_1, hcz65_2, hcz65_3, hcz65_4⟩ := cz5 BK119
                 obtain ⟨hfz65_0, hfz65_1, hfz65_2, hfz65_3, hfz65_4⟩ := fz5 BK119
                 have p134 : 0 ≤ (x6_4 : Int) := zI (by first | (with_reducible assumption) | assumption)
                 have q134 : x6_4 < (l0_4.length : Int) := zI (by first | (with_reducible assumption) | assumption)
                 obtain ⟨ad134, e134, hx134_0, hx134_1, hx134_2, hx134_3⟩ := at_T53 HR0_4.out x6_4 p134 q134
                 obtain rfl : ad128 = ad134 := (by injection e134)
                 replace hx134_0 := (HB.out.cell (World.block_lt_of_cell? w _ hx134_0)).trans hx134_0
                 replace hx134_1 := (HB.out.cell (World.block_lt_of_cell? w _ hx134_1)).trans hx134_1
                 replace hx134_2 := (HB.out.cell (World.block_lt_of_cell? w _ hx134_2)).trans hx134_2
                 replace hx134_3 := (HB.out.cell (World.block_lt_of_cell? w _ hx134_3)).trans hx134_3
                 replace p134 := eq_true p134
                 replace q134 := eq_true q134
                 obtain ⟨hcz66_0, hcz66_1, hcz66_2, hcz66_3⟩ := cz4 BK129
                 obtain ⟨hfz66_0, hfz66_1, hfz66_2, hfz66_3⟩ := fz4 BK129
                 go_wp2
                 repeat (go_quiet (fail); try go_wp2)
                 go_roundg k4
                 case measure => have := HJ1.out; have := HK2.out; have := HJ35.out; have := HK4.out; omega
                 case rel => exact ⟨(wrap64 (x6_4 + 1)), rfl, H', ⟨by have := HJ1.out; have := HK2.out; have := HJ35.out; have := HK4.out; omega⟩, ⟨BK119.out⟩, ⟨BK129.out⟩, ⟨nxD HB⟩⟩
               ·rw [if_neg c59] at H
                exact absurd H (by simp)
              ·rw [if_neg c58] at H
               exact absurd H (by simp)
             ·rw [if_neg c57] at H
              have c57b0 := decide_eq_false c57
              clear c57
              have H' := zA H
              clear H
              have hnb67 := NB129_119.out
              have hnc67 := NB119_129.out
              obtain ⟨hcz68_0, hcz68_1, hcz68_2, hcz68_3⟩ := cz4 BK129
              obtain ⟨hfz68_0, hfz68_1, hfz68_2, hfz68_3⟩ := fz4 BK129
              go_wp2
              repeat (go_quiet (fail); try go_wp2)
              go_roundg k4
              case measure => have := HJ1.out; have := HK2.out; have := HJ35.out; have := HK4.out; omega
              case rel => exact ⟨(wrap64 (x3_2 + (wrap64 (((rd_T53 l0_4 x4_2).f1) * ((rd_T53 l0_4 x4_2).f2))))), (wrap64 (x4_2 + 1)), rfl, rfl, H', ⟨by have := HJ1.out; have := HK2.out; have := HJ35.out; have := HK4.out; omega⟩, ⟨BK119.out⟩, ⟨nxD HB⟩⟩
       ·rw [if_neg c35] at H
        exact absurd H (by simp)
      ·rw [if_neg c34] at H
       have c34b0 := decide_eq_false c34
       clear c34
       obtain rfl := Option.some.inj H
       obtain ⟨hcz69_0, hcz69_1, hcz69_2, hcz69_3, hcz69_4⟩ := cz5 BK119
       obtain ⟨hfz69_0, hfz69_1, hfz69_2, hfz69_3, hfz69_4⟩ := fz5 BK119
       go_wp2
       repeat (go_quiet (fail); try go_wp2)
       go_ret
       exact ⟨rfl, nxD HB⟩
theorem rdT_nat (l : List SC) (i : Nat) (h : i < l.length) : rd_T53 l (i : Int) = l[i] := by simp [rd_T53, h]
theorem spec_FrameOk.l1_ev (p w h r : Int) (l : List SC) (hn : l.length ≤ 4) (s : Int) (i : Nat) (hi : i < l.length) (x : SC) (b : Bool) (hr : Ev (fun k => spec_FrameOk.l0 k (wrap64 (s + wrap64 (x.f1 * x.f2))) (wrap64 ((i : Int) + 1)) p w h r l) b) :
  ∀ d j : Nat, j + d = i → Ev (fun k => spec_FrameOk.l1 k s (i : Int) (j : Int) p w h r l x.f0 x.f1 x.f2 x.f3) (!((l.take i).drop j).any (fun y => decide (y.f0 = x.f0)) && b) := by
 intro d
 induction d with
 | zero =>
  intro j hj
  refine Ev.step (fun _ => by rw [spec_FrameOk.l1]) (Ev.ng (by omega) (Ev.eq hr ?_))
  rw [List.drop_of_length_le (by rw [zQ]; omega)]; rfl
 | succ d ih =>
  intro j hj
  have hjl : j < l.length := by omega
  refine Ev.step (fun _ => by rw [spec_FrameOk.l1]) (Ev.ip (by omega) (Ev.ip (by omega) (Ev.ip (by omega) ?_)))
  rw [rdT_nat l j hjl]
  have hlt : j < (l.take i).length := by rw [zQ]; omega
  rw [List.drop_eq_getElem_cons hlt, List.any_cons, List.getElem_take]
  by_cases e : l[j].f0 = x.f0
  ·refine Ev.ip e (Ev.eq (Ev.now _) ?_)
   rw [zT e]; rfl
  ·refine Ev.ng e ?_
   rw [wrap_succ j (by omega), decide_eq_false e, Bool.false_or]
   exact ih (j + 1) (by omega)
theorem spec_FrameOk.l0_ev (p w h r : Int) (l : List SC) (hn : l.length ≤ 4) : ∀ (d i : Nat) (s : Int), i + d = l.length → 0 ≤ s → s ≤ 16 * i → Ev (fun k => spec_FrameOk.l0 k s (i : Int) p w h r l) (compsGo l i d s) := by
 intro d
 induction d with
 | zero =>
  intro i s hi h0 h1
  refine Ev.step (fun _ => by rw [spec_FrameOk.l0]) (Ev.ng (by omega) (Ev.eq (Ev.now _) ?_))
  rfl
 | succ d ih =>
  intro i s hi h0 h1
  have hlt : i < l.length := by omega
  refine Ev.step (fun _ => by rw [spec_FrameOk.l0]) (Ev.ip (by omega) (Ev.ip (by omega) ?_))
  rw [compsGo]
  obtain ⟨x, hx⟩ : ∃ x, x = rd_T53 l (i : Int) := ⟨_, rfl⟩
  rw [← hx]
  have jt : compOk x = false → Ev (fun k => spec_FrameOk.j2 k s (i : Int) true p w h r l x.f0 x.f1 x.f2 x.f3) (compOk x && (!idIn l i x.f0 && compsGo l (i + 1) d (s + x.f1 * x.f2))) := fun e => by
   rw [e]
   refine Ev.step (fun _ => by rw [spec_FrameOk.j2]) (Ev.ip rfl (Ev.eq (Ev.now _) ?_))
   rfl
  refine Ev.bind (Ev.c (spec_l01Between.val _ _ _)) ?_
  by_cases c0 : (decide (0 ≤ x.f0) && decide (x.f0 ≤ 255)) = true
  ·refine Ev.ip c0 (Ev.bind (Ev.c (spec_l01Between.val _ _ _)) ?_)
   by_cases c1 : (decide (1 ≤ x.f1) && decide (x.f1 ≤ 4)) = true
   ·refine Ev.ip c1 (Ev.bind (Ev.c (spec_l01Between.val _ _ _)) ?_)
    by_cases c2 : (decide (1 ≤ x.f2) && decide (x.f2 ≤ 4)) = true
    ·refine Ev.ip c2 (Ev.bind (Ev.c (spec_l01Between.val _ _ _)) ?_)
     by_cases c3 : (decide (0 ≤ x.f3) && decide (x.f3 ≤ 3)) = true
     ·rw [c3]
      have ok : compOk x = true := by unfold compOk; rw [c0, c1, c2, c3]; rfl
      obtain ⟨_, g1, g2, _⟩ := compOk_of ok
      have hm := mul_16 x.f1 x.f2 g1.1 g1.2 g2.1 g2.2
      refine Ev.step (fun _ => by rw [spec_FrameOk.j2]) (Ev.ng (by simp) ?_)
      rw [ok, Bool.true_and]
      refine spec_FrameOk.l1_ev p w h r l hn s i hlt x _ ?_ i 0 (by omega)
      rw [wrap_in (x.f1 * x.f2) (by omega) (by omega), wrap_in (s + x.f1 * x.f2) (by omega) (by omega), wrap_succ i (by omega)]
      exact ih (i + 1) (s + x.f1 * x.f2) (by omega) (by omega) (by omega)
     ·rw [Bool.eq_false_iff.2 c3]
      exact jt (by unfold compOk; rw [Bool.eq_false_iff.2 c3]; simp)
    ·exact Ev.ng c2 (jt (by unfold compOk; rw [Bool.eq_false_iff.2 c2]; simp))
   ·exact Ev.ng c1 (jt (by unfold compOk; rw [Bool.eq_false_iff.2 c1]; simp))
  ·exact Ev.ng c0 (jt (by unfold compOk; rw [Bool.eq_false_iff.2 c0]; simp))
theorem spec_FrameOk.j0_ev (p w h r : Int) (b : Bool) (l : List SC) (hb : b = false → l.length ≤ 4) : Ev (fun k => spec_FrameOk.j0 k b p w h r l) (!b && compsGo l 0 l.length 0) := by
 refine Ev.step (fun _ => by rw [spec_FrameOk.j0]) ?_
 cases b with
 | true => exact Ev.ip rfl (Ev.eq (Ev.now _) rfl)
 | false => exact Ev.ng (by simp) (spec_FrameOk.l0_ev p w h r l (hb rfl) l.length 0 0 (Nat.zero_add _) (by omega) (by omega))
theorem spec_FrameOk.rest (p w h r : Int) (hp : p = 8 ∨ p = 12) (l : List SC) :
  Ev (fun k => (spec_l01Between.f w 1 256).bind fun t1088 => (if t1088 = true then ((spec_l01Between.f h 1 256).bind fun t1089 => (if t1089 = true then (if (wrap64 (w * h)) > 16384 then (spec_FrameOk.j0 k true p w h r l) else ((spec_l01Between.f r 0 255).bind fun t305 => (if t305 = true then ((spec_l01Between.f (l.length : Int) 1 4).bind fun t306 => (spec_FrameOk.j0 k (!t306) p w h r l)) else (spec_FrameOk.j0 k true p w h r l)))) else (spec_FrameOk.j0 k true p w h r l))) else (spec_FrameOk.j0 k true p w h r l))) (frameOkM p w h r l) := by
 have no : frameHead p w h r (l.length : Int) = false → frameOkM p w h r l = (!true && compsGo l 0 l.length 0) := fun e => by rw [frameOkM, e]; rfl
 have bad := spec_FrameOk.j0_ev p w h r true l (fun e => by cases e)
 refine Ev.bind (Ev.c (spec_l01Between.val _ _ _)) ?_
 by_cases h1 : (decide (1 ≤ w) && decide (w ≤ 256)) = true
 ·refine Ev.ip h1 (Ev.bind (Ev.c (spec_l01Between.val _ _ _)) ?_)
  by_cases h2 : (decide (1 ≤ h) && decide (h ≤ 256)) = true
  ·refine Ev.ip h2 ?_
   have g1 := h1
   have g2 := h2
   simp only [Bool.and_eq_true, decide_eq_true_eq] at g1 g2
   have hm := mul_256 w h g1.1 g1.2 g2.1 g2.2
   rw [wrap_in (w * h) (by omega) (by omega)]
   by_cases h3 : w * h ≤ 16384
   ·refine Ev.ng (by omega) (Ev.bind (Ev.c (spec_l01Between.val _ _ _)) ?_)
    have hh : headOk p w h = true := by
     unfold headOk
     rw [h1, h2, zT h3]
     rcases hp with rfl | rfl <;> rfl
    by_cases h4 : (decide (0 ≤ r) && decide (r ≤ 255)) = true
    ·refine Ev.ip h4 (Ev.bind (Ev.c (spec_l01Between.val _ _ _)) ?_)
     refine Ev.eq (spec_FrameOk.j0_ev p w h r _ l (fun e => ?_)) ?_
     ·simp only [Bool.not_eq_false', Bool.and_eq_true, decide_eq_true_eq] at e
      omega
     ·rw [frameOkM, frameHead, hh, h4, Bool.not_not, Bool.true_and, Bool.true_and]
    ·refine Ev.ng h4 (Ev.eq bad (no ?_).symm)
     unfold frameHead
     rw [Bool.eq_false_iff.2 h4, Bool.false_and, Bool.and_false]
   ·refine Ev.ip (by omega) (Ev.eq bad (no ?_).symm)
    unfold frameHead headOk
    rw [decide_eq_false h3, Bool.and_false, Bool.false_and]
  ·refine Ev.ng h2 (Ev.eq bad (no ?_).symm)
   unfold frameHead headOk
   rw [Bool.eq_false_iff.2 h2, Bool.and_false, Bool.and_false, Bool.false_and, Bool.false_and]
 ·refine Ev.ng h1 (Ev.eq bad (no ?_).symm)
  unfold frameHead headOk
  rw [Bool.eq_false_iff.2 h1, Bool.false_and, Bool.and_false, Bool.false_and, Bool.false_and]
theorem spec_FrameOk.ev (p w h r : Int) (l : List SC) : Ev (fun k => spec_FrameOk.f k p w h r l) (frameOkM p w h r l) := by
 unfold spec_FrameOk.f
 by_cases h8 : p = 8
 ·exact Ev.ip h8 (spec_FrameOk.rest p w h r (.inl h8) l)
 ·refine Ev.ng h8 ?_
  by_cases h12 : p = 12
  ·exact Ev.ip h12 (spec_FrameOk.rest p w h r (.inr h12) l)
  ·refine Ev.ng h12 (Ev.eq (spec_FrameOk.j0_ev p w h r true l (fun e => by cases e)) ?_)
   rw [frameOkM, frameHead, headOk, decide_eq_false h8, decide_eq_false h12]; rfl
end Go.Proofs.YtilimpjcdeeaiaaGreat.G

