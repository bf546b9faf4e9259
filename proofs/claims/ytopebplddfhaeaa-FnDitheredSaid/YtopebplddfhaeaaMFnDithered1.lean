import Derived.Test.YtopebplddfhaeaaProg
import Derived.Below
import Derived.Deep.Draws
import Derived.Deep.AppendLies
import Derived.Maps.AppendAt
import Derived.OwnWalk
import Derived.Laws.BytesArg
import Derived.Laws.MakeOwn
import Derived.Laws.OwnMore
import Derived.Deep.OwnRows
import Derived.Tactics
import Derived.Lib.ConvBytes
import Derived.Laws.Slices
import Derived.WalkKit
import Derived.KernelRfl
import Derived.RowKit3
import Derived.Deep.LoopGhost
import Derived.Deep.QuietTactic
import Derived.BigQuiet
import Derived.WideLaws
import Derived.Deep.DeepCutAuto
import Derived.Deep.CutBlock
import Derived.Deep.RegionHeld3
import Derived.Laws.Rows
import Derived.Lib.AppendStr
import Derived.ArgAppend
import Derived.Laws.IdiomCopy
import Derived.OrdersHeld
import Derived.Laws.BitsLemmas
import Derived.RowKit
import Derived.Test.YtopebplddfhaeaaWWords
import Derived.Test.YtopebplddfhaeaaWLast
import Derived.Test.YtopebplddfhaeaaWTab
import Derived.Test.YtopebplddfhaeaaWFour
import Derived.Test.YtopebplddfhaeaaWQPut
import Derived.Test.YtopebplddfhaeaaWApart
import Derived.Test.YtopebplddfhaeaaWArr
import Derived.Test.YtopebplddfhaeaaWZeros
import Derived.Test.YtopebplddfhaeaaWFoot
import Derived.Test.YtopebplddfhaeaaWKept
import Derived.Test.YtopebplddfhaeaaWShare
import Derived.Test.YtopebplddfhaeaaWN
import Derived.Test.YtopebplddfhaeaaWFootNe
import Derived.Test.YtopebplddfhaeaaWAt
import Derived.Test.YtopebplddfhaeaaWEqStruct
import Derived.Test.YtopebplddfhaeaaWRepsOne
import Derived.Test.YtopebplddfhaeaaWInv
import Derived.Test.YtopebplddfhaeaaWInvWords
import Derived.Test.YtopebplddfhaeaaWGuard
import Derived.Test.YtopebplddfhaeaaWNEv
import Derived.Test.YtopebplddfhaeaaWMore
import Derived.BigRegion
import Derived.Deep.CutRange
set_option linter.unusedVariables false
set_option linter.unusedSimpArgs false
namespace Go.Proofs.Ytopebplddfhaeaa.G
open Go.RowKit Go.Proofs.YtopebplddfhaeaaW.PrintWords Go.Proofs.YtopebplddfhaeaaW.PrintLast Go.Proofs.YtopebplddfhaeaaW.PrintMore
attribute [local go_sem] max2_int min2_int max_two min_two max_three min_three max_four min_four   -- for this text's walks alone
def errW : Option Int → Value
  | none => .nilIface
  | some c => .iface 0 (.int .i64 c)
theorem errW_none : errW none = .nilIface := rfl
theorem errW_some (c : Int) : errW (some c) = .iface 0 (.int .i64 c) := rfl
theorem info3 : (Try.prog.info? 3).map (fun i => (i.zero, i.size, i.bytes)) = some (some (.int .i64 0), 1, 8) := by kernel_rfl
theorem info24 : (Try.prog.info? 24).map (fun i => (i.zero, i.size, i.bytes)) = some (some (.slice none 0 0), 1, 24) := by kernel_rfl
theorem info25 : (Try.prog.info? 25).map (fun i => (i.zero, i.size, i.bytes)) = some (some (.slice none 0 0), 1, 24) := by kernel_rfl
theorem info51 : (Try.prog.info? 51).map (fun i => (i.zero, i.size, i.bytes)) = some (some (.agg #[(.int .i64 0), (.int .i64 0), (.int .i64 0)]), 3, 24) := by kernel_rfl
-- the values' own types
def rd_L2 (xs : List (List Int)) (i : Int) : (List Int) := xs.getD i.toNat ([] : List Int)
theorem at_L2 {w : World} {A : Option Addr} {n : Nat} {xs : List (List Int)} (h : Kd.C (Kd.slice 3 (Kd.int .i64)) w A n xs) (i : Int) (h0 : 0 ≤ i) (h1 : i < n) : ∃ ad A0 c0, A = some ad ∧ w.cell? (ad.add i.toNat) = some (.slice A0 (rd_L2 xs i).length c0) ∧ (rd_L2 xs i).length ≤ c0 ∧ (Kd.int .i64).C w A0 (rd_L2 xs i).length (rd_L2 xs i) := by
  obtain ⟨ad, c, e, _, hK, hc0⟩ := Kd.C_get h ([] : List Int) i h0 h1
  have hc : ∀ j u, c[j]? = some u → w.cell? (ad.add (i.toNat * 1 + j)) = some u := hc0
  obtain ⟨A0, c0, rfl, l0, g0⟩ := hK
  exact ⟨ad, A0, c0, e, by have hq := hc 0 _ rfl; rwa [Nat.mul_one, Nat.add_zero] at hq, l0, g0⟩
def rd_L3 (xs : List (List (List Int))) (i : Int) : (List (List Int)) := xs.getD i.toNat ([] : List (List Int))
theorem at_L3 {w : World} {A : Option Addr} {n : Nat} {xs : List (List (List Int))} (h : Kd.C (Kd.slice 25 (Kd.slice 3 (Kd.int .i64))) w A n xs) (i : Int) (h0 : 0 ≤ i) (h1 : i < n) : ∃ ad A0 c0, A = some ad ∧ w.cell? (ad.add i.toNat) = some (.slice A0 (rd_L3 xs i).length c0) ∧ (rd_L3 xs i).length ≤ c0 ∧ (Kd.slice 3 (Kd.int .i64)).C w A0 (rd_L3 xs i).length (rd_L3 xs i) := by
  obtain ⟨ad, c, e, _, hK, hc0⟩ := Kd.C_get h ([] : List (List Int)) i h0 h1
  have hc : ∀ j u, c[j]? = some u → w.cell? (ad.add (i.toNat * 1 + j)) = some u := hc0
  obtain ⟨A0, c0, rfl, l0, g0⟩ := hK
  exact ⟨ad, A0, c0, e, by have hq := hc 0 _ rfl; rwa [Nat.mul_one, Nat.add_zero] at hq, l0, g0⟩
end Go.Proofs.Ytopebplddfhaeaa.G

namespace Go.Proofs.Ytopebplddfhaeaa.G
open Go.RowKit Go.Proofs.YtopebplddfhaeaaW.PrintWords Go.Proofs.YtopebplddfhaeaaW.PrintLast Go.Proofs.YtopebplddfhaeaaW.PrintMore
attribute [local go_sem] max2_int min2_int max_two min_two max_three min_three max_four min_four   -- for this text's walks alone
/-- A state of type 61 at block g of W; what its slices lead to came in by w0. -/
def IsS61 (w0 W : World) (g : Nat) (f0 : List Int) (f1 : Int) (f2 : Int) : Prop := ∃ A0 c0, W.heap[g]? = some (.cells #[.slice A0 f0.length c0, .int .i64 f1, .int .i64 f2] 61 (0, 0)) ∧ w0.heap.size ≤ g ∧ Kd.C (Kd.int .u8) w0 A0 f0.length f0
theorem IsS61.grown {w0 W : World} {g : Nat} {f0 : List Int} {f1 : Int} {f2 : Int} {W1 : World} {row : Option Nat} (h : IsS61 w0 W g f0 f1 f2) (hw : W.grownBy W1 row) (hne : some g ≠ row) : IsS61 w0 W1 g f0 f1 f2 := by
  obtain ⟨A0, c0, hb, hg, hr0⟩ := h
  exact ⟨A0, c0, blk_grown hb hw hne, hg, hr0⟩
theorem IsS61.own_neN {w0 W : World} {g : Nat} {f0 : List Int} {f1 : Int} {f2 : Int} {α : Type} {d : Kd α} {e : Nat} {base : Nat} {ok : Nat → Prop} {v : Value} {xs : List α} (h : IsS61 w0 W g f0 f1 f2) (ho : Kd.N d e W base ok v xs) (ht : e ≠ 61) : some g ≠ v.ownBlock := by
  obtain ⟨A0, c0, hb, hg, hr0⟩ := h
  exact Kd.N_ne ho hb ht
theorem IsS61.fresh {w0 W : World} {g : Nat} {f0 : List Int} {f1 : Int} {f2 : Int} (h : IsS61 w0 W g f0 f1 f2) : ∀ k, W.heap.size ≤ k → k ≠ g := by
  obtain ⟨A0, c0, hb, hg, hr0⟩ := h
  exact Kd.freshB hb
theorem IsS61.kept {w0 W : World} {g : Nat} {f0 : List Int} {f1 : Int} {f2 : Int} {W1 : World} {S : Nat → Prop} (h : IsS61 w0 W g f0 f1 f2) (hk : Kept W W1 S) (hne : ¬ S g) : IsS61 w0 W1 g f0 f1 f2 := by
  obtain ⟨A0, c0, hb, hg, hr0⟩ := h
  exact ⟨A0, c0, blk_kept hb hk hne, hg, hr0⟩
theorem IsS61.below {w0 W : World} {g : Nat} {f0 : List Int} {f1 : Int} {f2 : Int} {W1 : World} (h : IsS61 w0 W g f0 f1 f2) (hw : Below W.heap.size W W1) : IsS61 w0 W1 g f0 f1 f2 := h.grown (grown_of_below hw none) (by simp)
theorem IsS61.alloc {w0 W : World} {g : Nat} {f0 : List Int} {f1 : Int} {f2 : Int} (h : IsS61 w0 W g f0 f1 f2) (o : Obj) : IsS61 w0 (W.alloc o) g f0 f1 f2 := h.below (below_alloc (Below.refl _ _) o)
theorem IsS61.drewN {w0 W : World} {g : Nat} {f0 : List Int} {f1 : Int} {f2 : Int} (h : IsS61 w0 W g f0 f1 f2) (m : Nat) : IsS61 w0 (W.drewN m) g f0 f1 f2 := h
theorem IsS61.drew {w0 W : World} {g : Nat} {f0 : List Int} {f1 : Int} {f2 : Int} (h : IsS61 w0 W g f0 f1 f2) : IsS61 w0 W.drew g f0 f1 f2 := h
theorem IsS61.at_ {w0 W : World} {g : Nat} {f0 : List Int} {f1 : Int} {f2 : Int} {w' : World} {m : Nat} (hq : W.drewN m = w') (h : IsS61 w0 W g f0 f1 f2) : IsS61 w0 w' g f0 f1 f2 := by subst hq; exact IsS61.drewN h m
theorem IsS61.apart {w0 W : World} {g : Nat} {f0 : List Int} {f1 : Int} {f2 : Int} {α : Type} {d : Kd α} {e : Nat} {base : Nat} {ok : Nat → Prop} {v : Value} {xs : List α} (h : IsS61 w0 W g f0 f1 f2) (ho : d.R e W base ok v xs) (ht : ∀ q, q ∈ e :: d.E → q ≠ 61) : d.R e W base (fun k => ok k ∧ k ≠ g) v xs := by
  obtain ⟨A0, c0, hb, hg, hr0⟩ := h
  exact Kd.R_types ho hb ht
theorem IsS61.own_ne {w0 W : World} {g : Nat} {f0 : List Int} {f1 : Int} {f2 : Int} {α : Type} {d : Kd α} {e : Nat} {base : Nat} {ok : Nat → Prop} {v : Value} {xs : List α} (h : IsS61 w0 W g f0 f1 f2) (ho : d.R e W base ok v xs) (ht : e ≠ 61) : some g ≠ v.ownBlock := by
  obtain ⟨A0, c0, hb, hg, hr0⟩ := h
  exact Kd.R_ne ho hb ht
theorem IsS61.apartQ {w0 W : World} {g : Nat} {f0 : List Int} {f1 : Int} {f2 : Int} {α : Type} {d : Kd α} {e : Nat} {base : Nat} {ok : Nat → Prop} {v : Value} {xs : List α} (h : IsS61 w0 W g f0 f1 f2) (ho : d.Q e W base ok v xs) (ht : ∀ q, q ∈ e :: d.E → q ≠ 61) : d.Q e W base (fun k => ok k ∧ k ≠ g) v xs := by
  obtain ⟨A0, c0, hb, hg, hr0⟩ := h
  exact Kd.Q_types ho hb ht
theorem IsS61.own_neQ {w0 W : World} {g : Nat} {f0 : List Int} {f1 : Int} {f2 : Int} {α : Type} {d : Kd α} {e : Nat} {base : Nat} {ok : Nat → Prop} {v : Value} {xs : List α} (h : IsS61 w0 W g f0 f1 f2) (ho : d.Q e W base ok v xs) (ht : e ≠ 61) : some g ≠ v.ownBlock := by
  obtain ⟨A0, c0, hb, hg, hr0⟩ := h
  exact Kd.Q_ne ho hb ht
theorem IsS61.lt {w0 W : World} {g : Nat} {f0 : List Int} {f1 : Int} {f2 : Int} (h : IsS61 w0 W g f0 f1 f2) : g < W.heap.size := by
  obtain ⟨A0, c0, hb, hg, hr0⟩ := h
  exact blk_lt hb
theorem IsS61.ge {w0 W : World} {g : Nat} {f0 : List Int} {f1 : Int} {f2 : Int} (h : IsS61 w0 W g f0 f1 f2) : w0.heap.size ≤ g := by
  obtain ⟨A0, c0, hb, hg, hr0⟩ := h
  exact hg
theorem IsS61.ne_blk {w0 W : World} {g : Nat} {f0 : List Int} {f1 : Int} {f2 : Int} {a : Nat} {cs : Array Value} {t : TypeId} {fr : Nat × Nat} (h : IsS61 w0 W g f0 f1 f2) (hb2 : W.heap[a]? = some (.cells cs t fr)) (ht : t ≠ 61) : g ≠ a := by
  obtain ⟨A0, c0, hb, hg, hr0⟩ := h
  rintro rfl
  rw [hb] at hb2
  injection hb2 with hb2
  injection hb2 with _ ht2
  exact ht ht2.symm
theorem IsS61.far {w0 W : World} {g : Nat} {f0 : List Int} {f1 : Int} {f2 : Int} {p : Addr} (h : IsS61 w0 W g f0 f1 f2) (hne : g ≠ p.block) (u : Value) : IsS61 w0 (W.setCell p u) g f0 f1 f2 := by
  obtain ⟨A0, c0, hb, hg, hr0⟩ := h
  exact ⟨A0, c0, blk_far hb hne u, hg, hr0⟩
theorem cellS61_0 {W : World} {g : Nat} {A0 : Option Addr} {c0 : Nat} {f0 : List Int} {f1 : Int} {f2 : Int} (h : W.heap[g]? = some (.cells #[.slice A0 f0.length c0, .int .i64 f1, .int .i64 f2] 61 (0, 0))) : W.cell? ⟨g, 0, none⟩ = some (.slice A0 f0.length c0) := (blk_cell h 0).trans rfl
theorem cellS61_1 {W : World} {g : Nat} {A0 : Option Addr} {c0 : Nat} {f0 : List Int} {f1 : Int} {f2 : Int} (h : W.heap[g]? = some (.cells #[.slice A0 f0.length c0, .int .i64 f1, .int .i64 f2] 61 (0, 0))) : W.cell? ⟨g, 1, none⟩ = some (.int .i64 f1) := (blk_cell h 1).trans rfl
theorem IsS61.set_1 {w0 W : World} {g : Nat} {f0 : List Int} {f1 : Int} {f2 : Int} (h : IsS61 w0 W g f0 f1 f2) (x : Int) : IsS61 w0 (W.setCell ⟨g, 1, none⟩ (.int .i64 x)) g f0 x f2 := by
  obtain ⟨A0, c0, hb, hg, hr0⟩ := h
  exact ⟨A0, c0, by simpa using blk_set hb 1 (.int .i64 x), hg, hr0⟩
theorem cellS61_2 {W : World} {g : Nat} {A0 : Option Addr} {c0 : Nat} {f0 : List Int} {f1 : Int} {f2 : Int} (h : W.heap[g]? = some (.cells #[.slice A0 f0.length c0, .int .i64 f1, .int .i64 f2] 61 (0, 0))) : W.cell? ⟨g, 2, none⟩ = some (.int .i64 f2) := (blk_cell h 2).trans rfl
theorem IsS61.set_2 {w0 W : World} {g : Nat} {f0 : List Int} {f1 : Int} {f2 : Int} (h : IsS61 w0 W g f0 f1 f2) (x : Int) : IsS61 w0 (W.setCell ⟨g, 2, none⟩ (.int .i64 x)) g f0 f1 x := by
  obtain ⟨A0, c0, hb, hg, hr0⟩ := h
  exact ⟨A0, c0, by simpa using blk_set hb 2 (.int .i64 x), hg, hr0⟩
theorem IsS61.new (w0 W : World) (A0 : Option Addr) (c0 : Nat) (f0 : List Int) (f1 : Int) (f2 : Int) (hB : Below w0.heap.size w0 W) (hr0 : Kd.C (Kd.int .u8) w0 A0 f0.length f0) : IsS61 w0 (W.alloc (.cells #[.slice A0 f0.length c0, .int .i64 f1, .int .i64 f2] 61)) W.heap.size f0 f1 f2 := ⟨A0, c0, by simpa using heap_alloc_new W _, hB.size, hr0⟩
/-! ### spec_l01Open: function 22 -/
def spec_l01Open.f (l0 : List Int) : Option (List Int × Int × Int) := some (l0, 0, 13 + ((l0.length : Int) % 1000))
set_option maxHeartbeats 8000000 in
set_option maxRecDepth 100000 in
theorem spec_l01Open.calls (A0 : Option Addr) (c0 : Nat) (l0 : List Int) (r1 : List Int) (r2 : Int) (r3 : Int) (w0 w : World) (hB : Below w0.heap.size w0 w) (hr0 : Kd.C (Kd.int .u8) w0 A0 l0.length l0) (hc0 : l0.length ≤ c0) (h : spec_l01Open.f l0 = some (r1, r2, r3)) :
    Calls Try.prog 22 #[.slice A0 l0.length c0] w fun e w' => ∃ g_ : Nat, e = .returned (.pointer (some ⟨g_, 0, none⟩)) ∧ IsS61 w0 w' g_ r1 r2 r3 ∧ Below w0.heap.size w0 w' ∧ Below w.heap.size w w' := by
  have hu61 := Try.underlying61
  have HR0 := Aside0.mk hr0
  have HC0 := Aside0.mk hc0
  clear hr0 hc0
  have HBW := Aside0.mk (Below.refl w.heap.size w)
  have HW0 := Aside0.mk hB.size
  have HB := Aside0.mk hB
  clear hB
  have H : (some (l0, 0, 13 + ((l0.length : Int) % 1000))) = some (r1, r2, r3) := h
  clear h
  simp only [Option.some.injEq, Prod.mk.injEq] at H
  obtain ⟨rfl, rfl, rfl⟩ := H
  go_enter Try.func22, Try.ntmps22
  go_wp2_with (first | ((with_reducible refine gate_dst (N := 9) rfl ?_); refine box_event ?hg (N := 9) ?hd (cs := #[.slice A0 l0.length c0, .int .i64 0, .int .i64 (13 + ((l0.length : Int) % 1000))]) (t := 61) ?hr ?_; (case hd => rfl); (case hg => rfl); (case hr => first | (go_simp; done) | (go_simp; rfl)); intro gb101 hg w2 hbox hb; have n0_ := Aside0.mk (below_step HBW.out hb); have n1_ := Aside0.mk (below_step (by repeat (first | (with_reducible first | exact HB.out | apply below_alloc | apply pw_below_drewN | apply below_drew1) | exact HB.out)) hb); have n2_ := Aside0.mk (hbox); have n3_ := Aside0.mk ((by rw [hg]; exact (below_size (by repeat (first | (with_reducible first | exact HBW.out | apply below_alloc | apply pw_below_drewN | apply below_drew1) | exact HBW.out))) : w.heap.size ≤ gb101)); have n4_ := Aside0.mk ((Nat.le_trans HW0.out (by rw [hg]; exact (below_size (by repeat (first | (with_reducible first | exact HBW.out | apply below_alloc | apply pw_below_drewN | apply below_drew1) | exact HBW.out))) : w.heap.size ≤ gb101) : w0.heap.size ≤ gb101)); clear HBW; clear HB; have HBW := n0_; have HB := n1_; have BK101 := n2_; have GW101 := n3_; have GE101 := n4_; clear n0_ n1_ n2_ n3_ n4_; clear hb hbox hg))
  go_ret
  exact ⟨_, rfl, (show IsS61 w0 _ gb101 l0 0 (13 + ((l0.length : Int) % 1000)) from ⟨_, _, by (with_reducible repeat (first | refine blk_drewN ?_ _ | refine blk_drew ?_ | refine blk_alloc ?_ _)); exact BK101.out, GE101.out, HR0.out⟩), by repeat (first | (with_reducible first | exact HB.out | apply below_alloc | apply pw_below_drewN | apply below_drew1 | refine below_set ?_ GE101.out) | exact HB.out), by repeat (first | (with_reducible first | exact HBW.out | apply below_alloc | apply pw_below_drewN | apply below_drew1 | refine below_set ?_ GW101.out) | exact HBW.out)⟩
end Go.Proofs.Ytopebplddfhaeaa.G

namespace Go.Proofs.Ytopebplddfhaeaa.G
open Go.RowKit Go.Proofs.YtopebplddfhaeaaW.PrintWords Go.Proofs.YtopebplddfhaeaaW.PrintLast Go.Proofs.YtopebplddfhaeaaW.PrintMore
attribute [local go_sem] max2_int min2_int max_two min_two max_three min_three max_four min_four   -- for this text's walks alone
/-! ### spec_l01Between: function 38 -/
def spec_l01Between.f (a0 : Int) (a1 : Int) (a2 : Int) : Option (Bool) := if a0 ≥ a1 then (some (decide (a0 ≤ a2))) else (some false)
set_option maxHeartbeats 8000000 in
set_option maxRecDepth 100000 in
theorem spec_l01Between.calls (a0 : Int) (a1 : Int) (a2 : Int) (r : Bool) (w : World) (h : spec_l01Between.f a0 a1 a2 = some r) :
    Calls Try.prog 38 #[.int .i64 a0, .int .i64 a1, .int .i64 a2] w fun e w' => e = .returned (.bool r) ∧ Drawn0 w w' := by
  have H : (if a0 ≥ a1 then (some (decide (a0 ≤ a2))) else (some false)) = some r := h
  clear h
  by_cases c4 : a0 ≥ a1
  · rw [if_pos c4] at H
    have c4b0 : decide (a1 ≤ a0) = true := decide_eq_true c4
    clear c4
    obtain rfl := Option.some.inj H
    go_enter Try.func38, Try.ntmps38
    go_wp2
    go_ret
    exact ⟨by first | rfl | (simp; done) | (simp [*]; done), by repeat (first | exact Drawn0.refl _ | apply Drawn0.step)⟩
  · rw [if_neg c4] at H
    have c4b0 : decide (a1 ≤ a0) = false := decide_eq_false c4
    clear c4
    obtain rfl := Option.some.inj H
    go_enter Try.func38, Try.ntmps38
    go_wp2
    go_ret
    exact ⟨by first | rfl | (simp; done) | (simp [*]; done), by repeat (first | exact Drawn0.refl _ | apply Drawn0.step)⟩
theorem spec_l01Between.val (x lo hi : Int) : spec_l01Between.f x lo hi = some (decide (lo ≤ x) && decide (x ≤ hi)) := by
  unfold spec_l01Between.f
  by_cases h1 : x ≥ lo
  · rw [if_pos h1]; simp [ge_iff_le.mp h1]
  · rw [if_neg h1]; have : ¬ lo ≤ x := h1; simp [this]
end Go.Proofs.Ytopebplddfhaeaa.G

namespace Go.Proofs.Ytopebplddfhaeaa.G
open Go.RowKit Go.Proofs.YtopebplddfhaeaaW.PrintWords Go.Proofs.YtopebplddfhaeaaW.PrintLast Go.Proofs.YtopebplddfhaeaaW.PrintMore
attribute [local go_sem] max2_int min2_int max_two min_two max_three min_three max_four min_four   -- for this text's walks alone
/-! what several texts use -/
theorem S_put1 {α : Type} {d : Kd α} {e g n cap base : Nat} {W w1 : World} {xs : List α} {u : Value} {x' : α} (hd : d.sz = 1) (h : Kd.S d e W base (fun _ => True) (.slice (some ⟨g, 0, none⟩) n cap) xs) (hb : Below W.heap.size W w1) (z : α) (i : Int) (h0 : 0 ≤ i) (h1 : i < n)
    (hM : d.M w1 base (fun k => W.heap.size ≤ k) x' [u]) : Kd.S d e (w1.setCell ⟨g, i.toNat, none⟩ u) base (fun _ => True) (.slice (some ⟨g, 0, none⟩) n cap) (xs.set i.toNat x') := by
  have hg : g < W.heap.size := Kd.S_lt h g rfl
  have h2 : Kd.S d e w1 base (fun k => True ∧ ¬ W.heap.size ≤ k) (.slice (some ⟨g, 0, none⟩) n cap) xs := Kd.S_mono (Kd.S_old h hb) (fun k hk => ⟨trivial, Nat.not_le.2 hk.2⟩)
  obtain ⟨oki, c, hcl, hM0, hcc, hfr, hoki, hH⟩ := Kd.S_elem h2 z i h0 h1
  obtain ⟨q, rfl⟩ := List.length_eq_one_iff.1 (hcl.trans hd)
  have := Kd.S_seg (okg := fun k => W.heap.size ≤ k) (okp := fun k => W.heap.size ≤ k) hH h0 h1 (seg := [u]) (j := 0) (by simp [hd]) (x' := x') (by
    simpa using hM) (fun k hk => .inr hk) (fun k hk => ⟨trivial, by intro he; subst he; omega⟩)
  have h3 := this.1
  rw [hd, Nat.mul_one, Nat.add_zero] at h3
  exact h3
theorem S_cell {α : Type} {d : Kd α} {e g n cap base : Nat} {W : World} {ok : Nat → Prop} {xs : List α} (hd : d.sz = 1) (h : Kd.S d e W base ok (.slice (some ⟨g, 0, none⟩) n cap) xs) (z : α) (i : Int) (h0 : 0 ≤ i) (h1 : i < n) :
    (∃ u, W.cell? ⟨g, i.toNat, none⟩ = some u) ∧ W.frozen? ⟨g, i.toNat, none⟩ = false := by
  obtain ⟨oki, c, hcl, hM0, hcc, hfr, hoki, hH⟩ := Kd.S_elem h z i h0 h1
  rw [hd] at hcc hfr hcl
  obtain ⟨u, rfl⟩ := List.length_eq_one_iff.1 hcl
  exact ⟨⟨u, by have := hcc 0 u rfl; rwa [Nat.mul_one, Nat.add_zero] at this⟩, by have := hfr 0; rwa [Nat.mul_one, Nat.add_zero] at this⟩
theorem fill_set {α : Type} (l : List α) (z : α) (i : Nat) (hi : i < l.length) : (l.take i ++ List.replicate (l.length - i) z).set i l[i] = l.take (i + 1) ++ List.replicate (l.length - (i + 1)) z := by
  rw [show l.length - i = (l.length - (i + 1)) + 1 by omega, List.replicate_succ, List.take_succ_eq_append_getElem hi, List.append_assoc]
  rw [List.set_append_right _ _ (by simp; omega)]
  simp [Nat.min_eq_left (Nat.le_of_lt hi)]
/-! rounds -/
theorem Ev.ip {α : Type} {c : Prop} [Decidable c] {g f : Nat → Option α} {r : α} (hc : c) (h : Ev g r) : Ev (fun n => if c then g n else f n) r := by
  obtain ⟨K, h⟩ := h
  exact ⟨K, fun n hn => by show (if c then g n else f n) = some r; rw [if_pos hc]; exact h n hn⟩
theorem Ev.ng {α : Type} {c : Prop} [Decidable c] {g f : Nat → Option α} {r : α} (hc : ¬ c) (h : Ev f r) : Ev (fun n => if c then g n else f n) r := by
  obtain ⟨K, h⟩ := h
  exact ⟨K, fun n hn => by show (if c then g n else f n) = some r; rw [if_neg hc]; exact h n hn⟩
theorem Ev.c {α : Type} {x : Option α} {r : α} (h : x = some r) : Ev (fun _ => x) r := ⟨0, fun _ _ => h⟩
theorem Ev.eq {α : Type} {g : Nat → Option α} {r r' : α} (h : Ev g r) (e : r = r') : Ev g r' := e ▸ h
theorem rd_nat (l : List Int) (i : Nat) (h : i < l.length) : rd l (i : Int) = l[i] := by simp [rd, h]
theorem wrap_succ (i : Nat) (h : i < 9223372036854775807) : wrap64 ((i : Int) + 1) = ((i + 1 : Nat) : Int) := by unfold wrap64; omega
theorem wrap_in (x : Int) (h1 : -9223372036854775808 ≤ x) (h2 : x ≤ 9223372036854775807) : wrap64 x = x := by unfold wrap64; omega
/-- all numbers lie between two others -/
def allW (lo hi : Int) (l : List Int) : Bool := l.all fun x => decide (lo ≤ x) && decide (x ≤ hi)
/-- a pixel -/
def isPx (px : List Int) : Bool := decide (px.length = 3) && allW 0 255 px
/-- the sum of the squares of the three differences -/
def dist (c px : List Int) : Int := (rd c 0 - rd px 0) * (rd c 0 - rd px 0) + (rd c 1 - rd px 1) * (rd c 1 - rd px 1) + (rd c 2 - rd px 2) * (rd c 2 - rd px 2)
/-- the first of the nearest colours, from one on -/
def nearGo (px : List Int) : List (List Int) → Int → Int → Int → Int
  | [], _, best, _ => best
  | c :: cs, i, best, least => if least < 0 ∨ dist c px < least then nearGo px cs (i + 1) i (dist c px) else nearGo px cs (i + 1) best least
theorem sq_bound (d : Int) (h1 : -255 ≤ d) (h2 : d ≤ 255) : 0 ≤ d * d ∧ d * d ≤ 65025 := by
  have e : d * d = ((d.natAbs * d.natAbs : Nat) : Int) := by rw [Int.natCast_mul, Int.natAbs_mul_self']
  have h3 : d.natAbs ≤ 255 := by omega
  have h4 : d.natAbs * d.natAbs ≤ 255 * 255 := Nat.mul_le_mul h3 h3
  omega
theorem isPx_three {px : List Int} (h : isPx px = true) : ∃ a b c, px = [a, b, c] ∧ 0 ≤ a ∧ a ≤ 255 ∧ 0 ≤ b ∧ b ≤ 255 ∧ 0 ≤ c ∧ c ≤ 255 := by
  unfold isPx allW at h
  rw [Bool.and_eq_true, decide_eq_true_eq, List.all_eq_true] at h
  obtain ⟨hl, ha⟩ := h
  match px, hl with
  | [a, b, c], _ =>
    have h1 := ha a (by simp)
    have h2 := ha b (by simp)
    have h3 := ha c (by simp)
    simp only [Bool.and_eq_true, decide_eq_true_eq] at h1 h2 h3
    exact ⟨a, b, c, rfl, h1.1, h1.2, h2.1, h2.2, h3.1, h3.2⟩
theorem sq_step (s a p : Int) (h0 : 0 ≤ s) (h1 : s ≤ 130050) (ha : 0 ≤ a) (ha' : a ≤ 255) (hp : 0 ≤ p) (hp' : p ≤ 255) : wrap64 (s + wrap64 (wrap64 (a - p) * wrap64 (a - p))) = s + (a - p) * (a - p) := by
  have h := sq_bound (a - p) (by omega) (by omega)
  rw [wrap_in (a - p) (by omega) (by omega), wrap_in ((a - p) * (a - p)) (by omega) (by omega), wrap_in _ (by omega) (by omega)]
theorem w64_1 : wrap64 (0 + 1) = 1 := by unfold wrap64; omega
theorem w64_2 : wrap64 (1 + 1) = 2 := by unfold wrap64; omega
theorem w64_3 : wrap64 (2 + 1) = 3 := by unfold wrap64; omega
/-- colours -/
def isCols (l : List (List Int)) : Bool := decide (1 ≤ l.length) && decide (l.length ≤ 256) && l.all isPx
theorem isCols_all {l : List (List Int)} (h : isCols l = true) : ∀ c ∈ l, isPx c = true := by
  unfold isCols at h; simp only [Bool.and_eq_true, List.all_eq_true] at h; exact h.2
theorem isCols_len {l : List (List Int)} (h : isCols l = true) : 1 ≤ l.length ∧ l.length ≤ 256 := by
  unfold isCols at h; simp only [Bool.and_eq_true, decide_eq_true_eq] at h; exact h.1
/-- numbers that rise by one -/
def rising (a : Int) : Nat → List Int
  | 0 => []
  | n + 1 => a :: rising (a + 1) n
theorem rising_length (a : Int) (n : Nat) : (rising a n).length = n := by
  induction n generalizing a with
  | zero => rfl
  | succ n ih => simp [rising, ih]
theorem rising_snoc (a : Int) (n : Nat) : rising a (n + 1) = rising a n ++ [a + n] := by
  induction n generalizing a with
  | zero => simp [rising]
  | succ n ih => rw [rising, ih]; simp [rising, Int.add_assoc, Int.add_comm 1]
theorem rising_get (a : Int) (n i : Nat) (h : i < (rising a n).length) : (rising a n)[i] = a + i := by
  induction n generalizing a i with
  | zero => simp [rising] at h
  | succ n ih =>
    cases i with
    | zero => simp [rising]
    | succ i => simp only [rising, List.getElem_cons_succ]; rw [ih]; omega
def risingB (a : Int) (n : Nat) : List Int := (rising a n).map (· % 256)
theorem risingB_length (a : Int) (n : Nat) : (risingB a n).length = n := by simp [risingB, rising_length]
theorem risingB_snoc (a : Int) (n : Nat) : risingB a (n + 1) = risingB a n ++ [(a + n) % 256] := by simp [risingB, rising_snoc]
theorem wf_u8 {x : Int} (h : (Lit.int .u8 x).wf = true) : 0 ≤ x ∧ x ≤ 255 := by
  simp only [Lit.wf, Bool.and_eq_true, decide_eq_true_eq] at h
  have h1 : IntKind.u8.min = 0 := rfl
  have h2 : IntKind.u8.max = 255 := rfl
  omega
theorem wf_i64 {x : Int} (h : (Lit.int .i64 x).wf = true) : -9223372036854775808 ≤ x ∧ x ≤ 9223372036854775807 := by
  simp only [Lit.wf, Bool.and_eq_true, decide_eq_true_eq] at h
  have h1 : IntKind.i64.min = -9223372036854775808 := rfl
  have h2 : IntKind.i64.max = 9223372036854775807 := rfl
  omega
end Go.Proofs.Ytopebplddfhaeaa.G

namespace Go.Proofs.Ytopebplddfhaeaa.G
open Go.RowKit Go.Proofs.YtopebplddfhaeaaW.PrintWords Go.Proofs.YtopebplddfhaeaaW.PrintLast Go.Proofs.YtopebplddfhaeaaW.PrintMore
attribute [local go_sem] max2_int min2_int max_two min_two max_three min_three max_four min_four   -- for this text's walks alone
/-! ### spec_l21Px: function 31 -/
def spec_l21Px.l0 : Nat → List Int → Int → Option (Bool)
  | 0, _, _ => none
  | k + 1, x0, x3 => if x3 < 3 then (if 0 ≤ x3 then (if x3 < (x0.length : Int) then ((spec_l01Between.f (rd x0 x3) 0 255).bind fun t103 => (if t103 = true then (spec_l21Px.l0 k x0 (wrap64 (x3 + 1))) else (some false))) else (none)) else (none)) else (some true)
def spec_l21Px.f (k : Nat) (l0 : List Int) : Option (Bool) := if (l0.length : Int) = 3 then (spec_l21Px.l0 k l0 0) else (some false)
theorem spec_l21Px.mono_l : ∀ k, (∀ y0 y1, LeO (spec_l21Px.l0 k y0 y1) (spec_l21Px.l0 (k + 1) y0 y1))
  | 0 => fun _ _ r h => by simp [spec_l21Px.l0] at h
  | k + 1 => by
    have ih0 := spec_l21Px.mono_l k
    · intro y0 y1
      unfold spec_l21Px.l0
      repeat' first
      | (with_reducible exact ih0 _ _)
      | (with_reducible exact LeO.refl _)
      | (with_reducible exact LeO.none _)
      | (with_reducible refine LeO.ite ?_ ?_)
      | (with_reducible refine LeO.bind ?_ (fun _ => ?_))
      | exact ih0 _ _
      | exact LeO.none _
      | refine LeO.ite ?_ ?_
      | refine LeO.bind ?_ (fun _ => ?_)
theorem spec_l21Px.mono : ∀ a0 k, LeO (spec_l21Px.f k a0) (spec_l21Px.f (k + 1) a0) := by
  intro a0 k
  have ih0 := spec_l21Px.mono_l k
  unfold spec_l21Px.f
  repeat' first
      | (with_reducible exact ih0 _ _)
      | (with_reducible exact LeO.refl _)
      | (with_reducible exact LeO.none _)
      | (with_reducible refine LeO.ite ?_ ?_)
      | (with_reducible refine LeO.bind ?_ (fun _ => ?_))
      | exact ih0 _ _
      | exact LeO.none _
      | refine LeO.ite ?_ ?_
      | refine LeO.bind ?_ (fun _ => ?_)
set_option maxHeartbeats 8000000 in
set_option maxRecDepth 100000 in
theorem spec_l21Px.calls (k : Nat) (A0 : Option Addr) (c0 : Nat) (l0 : List Int) (r : Bool) (w : World) (hr0 : Kd.C (Kd.int .i64) w A0 l0.length l0) (hc0 : l0.length ≤ c0) (h : spec_l21Px.f k l0 = some r) :
    Calls Try.prog 31 #[.slice A0 l0.length c0] w fun e w' => e = .returned (.bool r) ∧ Drawn0 w w' := by
  have HR0 := Aside0.mk hr0
  have HC0 := Aside0.mk hc0
  clear hr0 hc0
  have H : (if (l0.length : Int) = 3 then (spec_l21Px.l0 k l0 0) else (some false)) = some r := h
  clear h
  by_cases c2 : (l0.length : Int) = 3
  · rw [if_pos c2] at H
    have c2b0 : ((l0.length : Int) == 3) = true := beq_iff_eq.mpr c2
    have c2b1 : ((l0.length : Int) != 3) = false := bne_eq_false_iff_eq.mpr c2
    clear c2
    have H' := Aside0.mk H
    clear H
    go_enter Try.func31, Try.ntmps31
    go_wp2
    go_loopg [3] k (fun kq v3 w' => ∃ (x3_1 : Int), v3 = .int .i64 x3_1 ∧ Aside0 (spec_l21Px.l0 kq l0 x3_1 = some r) ∧ Aside0 (kq ≤ k) ∧ Drawn0 w w')
    case atStart => exact ⟨(0), (by first | rfl | (simp; done) | (simp [*]; done)), H', ⟨Nat.le_refl _⟩, by repeat (first | exact Drawn0.refl _ | apply Drawn0.step)⟩
    case round =>
      clear H'
      try clear c2
      try clear c2b0
      try clear c2b1
      try clear p2
      obtain ⟨x3_1, rfl, HA, HK1, ⟨m1, rfl⟩⟩ := hrel
      cases gk with
      | zero => exact absurd HA.out (by simp [spec_l21Px.l0])
      | succ k1 =>
        have H := HA.out
        clear HA
        simp only [spec_l21Px.l0] at H
        by_cases c3 : x3_1 < 3
        · rw [if_pos c3] at H
          have c3b0 : decide (x3_1 < 3) = true := decide_eq_true c3
          clear c3
          by_cases c4 : 0 ≤ x3_1
          · rw [if_pos c4] at H
            have c4b0 : decide (0 ≤ x3_1) = true := decide_eq_true c4
            clear c4
            by_cases c5 : x3_1 < (l0.length : Int)
            · rw [if_pos c5] at H
              have c5b0 : decide (x3_1 < (l0.length : Int)) = true := decide_eq_true c5
              clear c5
              replace H := Option.bind_eq_some_iff.mp H
              obtain ⟨t103, A60, H⟩ := H
              replace H : (if t103 = true then (spec_l21Px.l0 k1 l0 (wrap64 (x3_1 + 1))) else (some false)) = some r := H
              have A6 := Aside0.mk A60
              clear A60
              by_cases c7 : t103 = true
              · subst c7
                have H1 : (spec_l21Px.l0 k1 l0 (wrap64 (x3_1 + 1))) = some r := by rw [if_pos rfl] at H; exact H
                clear H
                have H := H1
                clear H1
                have H' := Aside0.mk H
                clear H
                have p102 : 0 ≤ (x3_1 : Int) := of_decide_eq_true (by first | (with_reducible assumption) | assumption)
                have q102 : x3_1 < (l0.length : Int) := of_decide_eq_true (by first | (with_reducible assumption) | assumption)
                obtain ⟨ad102, e102, hx102_0⟩ := Kd.at_int HR0.out x3_1 p102 q102
                cases e102
                replace p102 := eq_true p102
                replace q102 := eq_true q102
                go_wp2_with (first | ((with_reducible refine gate_callee (f := 38) rfl ?_); refine goesL_ (some 15) rfl rfl Try.func38 (by kernel_rfl) rfl #[.int .i64 (rd l0 x3_1), .int .i64 0, .int .i64 255] rfl (by (try simp only [List.map_toArray, List.map_cons, List.map_nil]); first | done | rfl | (simp only [List.length_drop, List.length_take]; rfl)) ?_; (with_reducible refine (spec_l01Between.calls (rd l0 x3_1) 0 255 true _ A6.out).mono ?_); rintro e w' ⟨rfl, ⟨nd, rfl⟩⟩; refine ⟨_, rfl, ?_⟩))
                go_roundg k1
                case measure => have := HK1.out; omega
                case rel => exact ⟨(wrap64 (x3_1 + 1)), (by first | rfl | (simp; done) | (simp [*]; done)), H', ⟨by have := HK1.out; omega⟩, by repeat (first | exact Drawn0.refl _ | apply Drawn0.step)⟩
              · replace c7 := Bool.eq_false_iff.mpr c7
                subst c7
                have H1 : (some false) = some r := by rw [if_neg (show ¬ (false = true) by decide)] at H; exact H
                clear H
                have H := H1
                clear H1
                obtain rfl := Option.some.inj H
                have p102 : 0 ≤ (x3_1 : Int) := of_decide_eq_true (by first | (with_reducible assumption) | assumption)
                have q102 : x3_1 < (l0.length : Int) := of_decide_eq_true (by first | (with_reducible assumption) | assumption)
                obtain ⟨ad102, e102, hx102_0⟩ := Kd.at_int HR0.out x3_1 p102 q102
                cases e102
                replace p102 := eq_true p102
                replace q102 := eq_true q102
                go_wp2_with (first | ((with_reducible refine gate_callee (f := 38) rfl ?_); refine goesL_ (some 15) rfl rfl Try.func38 (by kernel_rfl) rfl #[.int .i64 (rd l0 x3_1), .int .i64 0, .int .i64 255] rfl (by (try simp only [List.map_toArray, List.map_cons, List.map_nil]); first | done | rfl | (simp only [List.length_drop, List.length_take]; rfl)) ?_; (with_reducible refine (spec_l01Between.calls (rd l0 x3_1) 0 255 false _ A6.out).mono ?_); rintro e w' ⟨rfl, ⟨nd, rfl⟩⟩; refine ⟨_, rfl, ?_⟩))
                go_ret
                exact ⟨by first | rfl | (simp; done) | (simp [*]; done), by repeat (first | exact Drawn0.refl _ | apply Drawn0.step)⟩
            · rw [if_neg c5] at H
              exact absurd H (by simp)
          · rw [if_neg c4] at H
            exact absurd H (by simp)
        · rw [if_neg c3] at H
          have c3b0 : decide (x3_1 < 3) = false := decide_eq_false c3
          clear c3
          obtain rfl := Option.some.inj H
          go_wp2
          go_ret
          exact ⟨by first | rfl | (simp; done) | (simp [*]; done), by repeat (first | exact Drawn0.refl _ | apply Drawn0.step)⟩
  · rw [if_neg c2] at H
    have c2b0 : ((l0.length : Int) == 3) = false := beq_eq_false_iff_ne.mpr c2
    have c2b1 : ((l0.length : Int) != 3) = true := bne_iff_ne.mpr c2
    obtain rfl := Option.some.inj H
    go_enter Try.func31, Try.ntmps31
    go_wp2
    go_ret
    exact ⟨by first | rfl | (simp; done) | (simp [*]; done), by repeat (first | exact Drawn0.refl _ | apply Drawn0.step)⟩
theorem spec_between (x lo hi : Int) : spec_l01Between.f x lo hi = some (decide (lo ≤ x) && decide (x ≤ hi)) := by
  unfold spec_l01Between.f
  by_cases h1 : x ≥ lo
  · rw [if_pos h1]; simp [ge_iff_le.mp h1]
  · rw [if_neg h1]; have : ¬ lo ≤ x := h1; simp [this]
theorem spec_l21Px.ev (l : List Int) : Ev (fun k => spec_l21Px.f k l) (isPx l) := by
  unfold isPx allW
  unfold spec_l21Px.f
  by_cases hl : l.length = 3
  · refine Ev.ip (by omega) ?_
    match l, hl with
    | [a, b, c], _ =>
      have r0 : rd [a, b, c] 0 = a := rfl
      have r1 : rd [a, b, c] 1 = b := rfl
      have r2 : rd [a, b, c] 2 = c := rfl
      have w0 : wrap64 (0 + 1) = 1 := by unfold wrap64; omega
      have w1 : wrap64 (1 + 1) = 2 := by unfold wrap64; omega
      have w2 : wrap64 (2 + 1) = 3 := by unfold wrap64; omega
      refine Ev.step (fun _ => by rw [spec_l21Px.l0]) (Ev.ip (by omega) (Ev.ip (by omega) (Ev.ip (by simp) ?_)))
      rw [r0, w0]
      refine Ev.bind (Ev.c (spec_between _ _ _)) ?_
      by_cases ha : (decide (0 ≤ a) && decide (a ≤ 255)) = true
      · refine Ev.ip ha (Ev.step (fun _ => by rw [spec_l21Px.l0]) (Ev.ip (by omega) (Ev.ip (by omega) (Ev.ip (by simp) ?_))))
        rw [r1, w1]
        refine Ev.bind (Ev.c (spec_between _ _ _)) ?_
        by_cases hb : (decide (0 ≤ b) && decide (b ≤ 255)) = true
        · refine Ev.ip hb (Ev.step (fun _ => by rw [spec_l21Px.l0]) (Ev.ip (by omega) (Ev.ip (by omega) (Ev.ip (by simp) ?_))))
          rw [r2, w2]
          refine Ev.bind (Ev.c (spec_between _ _ _)) ?_
          by_cases hc : (decide (0 ≤ c) && decide (c ≤ 255)) = true
          · refine Ev.ip hc (Ev.step (fun _ => by rw [spec_l21Px.l0]) (Ev.ng (by omega) (Ev.eq (Ev.now _) ?_)))
            simp only [List.all_cons, List.all_nil, ha, hb, hc]; rfl
          · refine Ev.ng hc (Ev.eq (Ev.now _) ?_)
            simp only [List.all_cons, List.all_nil, ha, hb, Bool.eq_false_iff.2 hc]; rfl
        · refine Ev.ng hb (Ev.eq (Ev.now _) ?_)
          simp only [List.all_cons, List.all_nil, ha, Bool.eq_false_iff.2 hb]; rfl
      · refine Ev.ng ha (Ev.eq (Ev.now _) ?_)
        simp only [List.all_cons, List.all_nil, Bool.eq_false_iff.2 ha]; rfl
  · exact Ev.ng (by omega) (Ev.eq (Ev.now _) (by simp [hl]))
end Go.Proofs.Ytopebplddfhaeaa.G

namespace Go.Proofs.Ytopebplddfhaeaa.G
open Go.RowKit Go.Proofs.YtopebplddfhaeaaW.PrintWords Go.Proofs.YtopebplddfhaeaaW.PrintLast Go.Proofs.YtopebplddfhaeaaW.PrintMore
attribute [local go_sem] max2_int min2_int max_two min_two max_three min_three max_four min_four   -- for this text's walks alone
/-! ### spec_PixelsOk: function 21 -/
def spec_PixelsOk.l0 : Nat → List (List Int) → Int → Option (Bool)
  | 0, _, _ => none
  | k + 1, x0, x3 => if x3 < (x0.length : Int) then (if 0 ≤ x3 then ((spec_l21Px.f k (rd_L2 x0 x3)).bind fun t105 => (if t105 = true then (spec_PixelsOk.l0 k x0 (wrap64 (x3 + 1))) else (some false))) else (none)) else (some true)
def spec_PixelsOk.f (k : Nat) (l0 : List (List Int)) : Option (Bool) := if (l0.length : Int) > 4096 then (some false) else (spec_PixelsOk.l0 k l0 0)
theorem spec_PixelsOk.mono_l : ∀ k, (∀ y0 y1, LeO (spec_PixelsOk.l0 k y0 y1) (spec_PixelsOk.l0 (k + 1) y0 y1))
  | 0 => fun _ _ r h => by simp [spec_PixelsOk.l0] at h
  | k + 1 => by
    have ih0 := spec_PixelsOk.mono_l k
    · intro y0 y1
      unfold spec_PixelsOk.l0
      repeat' first
      | (with_reducible exact ih0 _ _)
      | (with_reducible exact spec_l21Px.mono _ _)
      | (with_reducible exact LeO.refl _)
      | (with_reducible exact LeO.none _)
      | (with_reducible refine LeO.ite ?_ ?_)
      | (with_reducible refine LeO.bind ?_ (fun _ => ?_))
      | exact ih0 _ _
      | exact spec_l21Px.mono _ _
      | exact LeO.none _
      | refine LeO.ite ?_ ?_
      | refine LeO.bind ?_ (fun _ => ?_)
theorem spec_PixelsOk.mono : ∀ a0 k, LeO (spec_PixelsOk.f k a0) (spec_PixelsOk.f (k + 1) a0) := by
  intro a0 k
  have ih0 := spec_PixelsOk.mono_l k
  unfold spec_PixelsOk.f
  repeat' first
      | (with_reducible exact ih0 _ _)
      | (with_reducible exact spec_l21Px.mono _ _)
      | (with_reducible exact LeO.refl _)
      | (with_reducible exact LeO.none _)
      | (with_reducible refine LeO.ite ?_ ?_)
      | (with_reducible refine LeO.bind ?_ (fun _ => ?_))
      | exact ih0 _ _
      | exact spec_l21Px.mono _ _
      | exact LeO.none _
      | refine LeO.ite ?_ ?_
      | refine LeO.bind ?_ (fun _ => ?_)
set_option maxHeartbeats 8000000 in
set_option maxRecDepth 100000 in
theorem spec_PixelsOk.calls (k : Nat) (A0 : Option Addr) (c0 : Nat) (l0 : List (List Int)) (r : Bool) (w : World) (hr0 : Kd.C (Kd.slice 3 (Kd.int .i64)) w A0 l0.length l0) (hc0 : l0.length ≤ c0) (h : spec_PixelsOk.f k l0 = some r) :
    Calls Try.prog 21 #[.slice A0 l0.length c0] w fun e w' => e = .returned (.bool r) ∧ Drawn0 w w' := by
  have HR0 := Aside0.mk hr0
  have HC0 := Aside0.mk hc0
  clear hr0 hc0
  have H : (if (l0.length : Int) > 4096 then (some false) else (spec_PixelsOk.l0 k l0 0)) = some r := h
  clear h
  by_cases c2 : (l0.length : Int) > 4096
  · rw [if_pos c2] at H
    have c2b0 : decide (4096 < (l0.length : Int)) = true := decide_eq_true c2
    have c2b1 : decide (4096 < l0.length) = true := decide_eq_true (by omega)
    clear c2
    obtain rfl := Option.some.inj H
    go_enter Try.func21, Try.ntmps21
    go_wp2
    go_ret
    exact ⟨by first | rfl | (simp; done) | (simp [*]; done), by repeat (first | exact Drawn0.refl _ | apply Drawn0.step)⟩
  · rw [if_neg c2] at H
    have c2b0 : decide (4096 < (l0.length : Int)) = false := decide_eq_false c2
    have c2b1 : decide (4096 < l0.length) = false := decide_eq_false (by omega)
    clear c2
    have H' := Aside0.mk H
    clear H
    go_enter Try.func21, Try.ntmps21
    go_wp2
    go_loopg [3] k (fun kq v3 w' => ∃ (x3_1 : Int), v3 = .int .i64 x3_1 ∧ Aside0 (spec_PixelsOk.l0 kq l0 x3_1 = some r) ∧ Aside0 (kq ≤ k) ∧ Drawn0 w w')
    case atStart => exact ⟨(0), (by first | rfl | (simp; done) | (simp [*]; done)), H', ⟨Nat.le_refl _⟩, by repeat (first | exact Drawn0.refl _ | apply Drawn0.step)⟩
    case round =>
      clear H'
      try clear c2
      try clear c2b0
      try clear c2b1
      try clear p2
      obtain ⟨x3_1, rfl, HA, HK1, ⟨m1, rfl⟩⟩ := hrel
      cases gk with
      | zero => exact absurd HA.out (by simp [spec_PixelsOk.l0])
      | succ k1 =>
        have H := HA.out
        clear HA
        simp only [spec_PixelsOk.l0] at H
        by_cases c3 : x3_1 < (l0.length : Int)
        · rw [if_pos c3] at H
          have c3b0 : decide (x3_1 < (l0.length : Int)) = true := decide_eq_true c3
          clear c3
          by_cases c4 : 0 ≤ x3_1
          · rw [if_pos c4] at H
            have c4b0 : decide (0 ≤ x3_1) = true := decide_eq_true c4
            clear c4
            replace H := Option.bind_eq_some_iff.mp H
            obtain ⟨t105, A50, H⟩ := H
            replace H : (if t105 = true then (spec_PixelsOk.l0 k1 l0 (wrap64 (x3_1 + 1))) else (some false)) = some r := H
            have A5 := Aside0.mk A50
            clear A50
            by_cases c6 : t105 = true
            · subst c6
              have H1 : (spec_PixelsOk.l0 k1 l0 (wrap64 (x3_1 + 1))) = some r := by rw [if_pos rfl] at H; exact H
              clear H
              have H := H1
              clear H1
              have H' := Aside0.mk H
              clear H
              have p104 : 0 ≤ (x3_1 : Int) := of_decide_eq_true (by first | (with_reducible assumption) | assumption)
              have q104 : x3_1 < (l0.length : Int) := of_decide_eq_true (by first | (with_reducible assumption) | assumption)
              obtain ⟨ad104, A104_0, c104_0, e104, hx104_0, hl104_0, hi104_0⟩ := at_L2 HR0.out x3_1 p104 q104
              cases e104
              have HR104_0 := Aside0.mk hi104_0
              have HC104_0 := Aside0.mk hl104_0
              clear hi104_0 hl104_0
              replace p104 := eq_true p104
              replace q104 := eq_true q104
              go_wp2_with (first | ((with_reducible refine gate_callee (f := 31) rfl ?_); refine goesL_ (some 17) rfl rfl Try.func31 (by kernel_rfl) rfl #[.slice A104_0 (rd_L2 l0 x3_1).length c104_0] rfl (by (try simp only [List.map_toArray, List.map_cons, List.map_nil]); first | done | rfl | (simp only [List.length_drop, List.length_take]; rfl)) ?_; (with_reducible refine (spec_l21Px.calls k1 _ _ (rd_L2 l0 x3_1) true _ ?side1 ?side2 A5.out).mono ?_); (case side1 => repeat (first | exact HR104_0.out | (with_reducible refine Kd.C_alloc ?_ _) | (with_reducible refine Kd.C_drewN ?_ _) | (with_reducible refine Kd.C_drew ?_))); (case side2 => exact HC104_0.out); rintro e w' ⟨rfl, ⟨nd, rfl⟩⟩; refine ⟨_, rfl, ?_⟩))
              go_roundg k1
              case measure => have := HK1.out; omega
              case rel => exact ⟨(wrap64 (x3_1 + 1)), (by first | rfl | (simp; done) | (simp [*]; done)), H', ⟨by have := HK1.out; omega⟩, by repeat (first | exact Drawn0.refl _ | apply Drawn0.step)⟩
            · replace c6 := Bool.eq_false_iff.mpr c6
              subst c6
              have H1 : (some false) = some r := by rw [if_neg (show ¬ (false = true) by decide)] at H; exact H
              clear H
              have H := H1
              clear H1
              obtain rfl := Option.some.inj H
              have p104 : 0 ≤ (x3_1 : Int) := of_decide_eq_true (by first | (with_reducible assumption) | assumption)
              have q104 : x3_1 < (l0.length : Int) := of_decide_eq_true (by first | (with_reducible assumption) | assumption)
              obtain ⟨ad104, A104_0, c104_0, e104, hx104_0, hl104_0, hi104_0⟩ := at_L2 HR0.out x3_1 p104 q104
              cases e104
              have HR104_0 := Aside0.mk hi104_0
              have HC104_0 := Aside0.mk hl104_0
              clear hi104_0 hl104_0
              replace p104 := eq_true p104
              replace q104 := eq_true q104
              go_wp2_with (first | ((with_reducible refine gate_callee (f := 31) rfl ?_); refine goesL_ (some 17) rfl rfl Try.func31 (by kernel_rfl) rfl #[.slice A104_0 (rd_L2 l0 x3_1).length c104_0] rfl (by (try simp only [List.map_toArray, List.map_cons, List.map_nil]); first | done | rfl | (simp only [List.length_drop, List.length_take]; rfl)) ?_; (with_reducible refine (spec_l21Px.calls k1 _ _ (rd_L2 l0 x3_1) false _ ?side1 ?side2 A5.out).mono ?_); (case side1 => repeat (first | exact HR104_0.out | (with_reducible refine Kd.C_alloc ?_ _) | (with_reducible refine Kd.C_drewN ?_ _) | (with_reducible refine Kd.C_drew ?_))); (case side2 => exact HC104_0.out); rintro e w' ⟨rfl, ⟨nd, rfl⟩⟩; refine ⟨_, rfl, ?_⟩))
              go_ret
              exact ⟨by first | rfl | (simp; done) | (simp [*]; done), by repeat (first | exact Drawn0.refl _ | apply Drawn0.step)⟩
          · rw [if_neg c4] at H
            exact absurd H (by simp)
        · rw [if_neg c3] at H
          have c3b0 : decide (x3_1 < (l0.length : Int)) = false := decide_eq_false c3
          clear c3
          obtain rfl := Option.some.inj H
          go_wp2
          go_ret
          exact ⟨by first | rfl | (simp; done) | (simp [*]; done), by repeat (first | exact Drawn0.refl _ | apply Drawn0.step)⟩
theorem spec_PixelsOk.ev (l : List (List Int)) : Ev (fun k => spec_PixelsOk.f k l) (decide (l.length ≤ 4096) && l.all isPx) := by
  unfold spec_PixelsOk.f
  by_cases hl : l.length ≤ 4096
  · refine Ev.ng (by omega) ?_
    have key : ∀ d i : Nat, l.length - i = d → i ≤ l.length → Ev (fun k => spec_PixelsOk.l0 k l (i : Int)) ((l.drop i).all isPx) := by
      intro d
      induction d with
      | zero =>
        intro i hd hi
        refine Ev.step (fun _ => by rw [spec_PixelsOk.l0]) (Ev.ng (by omega) (Ev.eq (Ev.now _) ?_))
        rw [List.drop_of_length_le (by omega)]; rfl
      | succ d ih =>
        intro i hd hi
        have hlt : i < l.length := by omega
        refine Ev.step (fun _ => by rw [spec_PixelsOk.l0]) (Ev.ip (by omega) (Ev.ip (by omega) ?_))
        rw [show rd_L2 l (i : Int) = l[i] by simp [rd_L2, hlt], wrap_succ i (by omega), List.drop_eq_getElem_cons hlt, List.all_cons]
        refine Ev.bind (spec_l21Px.ev l[i]) ?_
        cases isPx l[i]
        · exact Ev.ng (by simp) (Ev.now _)
        · exact Ev.ip rfl (Ev.eq (ih (i + 1) (by omega) (by omega)) (by simp))
    exact Ev.eq (key _ 0 rfl (by omega)) (by simp [hl])
  · exact Ev.ip (by omega) (Ev.eq (Ev.now _) (by simp [hl]))
end Go.Proofs.Ytopebplddfhaeaa.G

namespace Go.Proofs.Ytopebplddfhaeaa.G
open Go.RowKit Go.Proofs.YtopebplddfhaeaaW.PrintWords Go.Proofs.YtopebplddfhaeaaW.PrintLast Go.Proofs.YtopebplddfhaeaaW.PrintMore
attribute [local go_sem] max2_int min2_int max_two min_two max_three min_three max_four min_four   -- for this text's walks alone
/-! ### spec_l05Floor: function 53 -/
def spec_l05Floor.f (a0 : Int) (a1 : Int) : Option (Int) := if a0 ≥ 0 then (if a1 = 0 then (none) else (some (wrap64 (Int.tdiv a0 a1)))) else (if a1 = 0 then (none) else (some (wrap64 (-(wrap64 (Int.tdiv (wrap64 ((wrap64 ((wrap64 (-a0)) + a1)) - 1)) a1))))))
set_option maxHeartbeats 8000000 in
set_option maxRecDepth 100000 in
theorem spec_l05Floor.calls (a0 : Int) (a1 : Int) (r : Int) (w : World) (h : spec_l05Floor.f a0 a1 = some r) :
    Calls Try.prog 53 #[.int .i64 a0, .int .i64 a1] w fun e w' => e = .returned (.int .i64 r) ∧ Drawn0 w w' := by
  have H : (if a0 ≥ 0 then (if a1 = 0 then (none) else (some (wrap64 (Int.tdiv a0 a1)))) else (if a1 = 0 then (none) else (some (wrap64 (-(wrap64 (Int.tdiv (wrap64 ((wrap64 ((wrap64 (-a0)) + a1)) - 1)) a1))))))) = some r := h
  clear h
  by_cases c3 : a0 ≥ 0
  · rw [if_pos c3] at H
    have c3b0 : decide (0 ≤ a0) = true := decide_eq_true c3
    clear c3
    by_cases c4 : a1 = 0
    · rw [if_pos c4] at H
      exact absurd H (by simp)
    · rw [if_neg c4] at H
      have c4b0 : (a1 == 0) = false := beq_eq_false_iff_ne.mpr c4
      have c4b1 : (a1 != 0) = true := bne_iff_ne.mpr c4
      obtain rfl := Option.some.inj H
      go_enter Try.func53, Try.ntmps53
      go_wp2
      go_ret
      exact ⟨by first | rfl | (simp; done) | (simp [*]; done), by repeat (first | exact Drawn0.refl _ | apply Drawn0.step)⟩
  · rw [if_neg c3] at H
    have c3b0 : decide (0 ≤ a0) = false := decide_eq_false c3
    clear c3
    by_cases c5 : a1 = 0
    · rw [if_pos c5] at H
      exact absurd H (by simp)
    · rw [if_neg c5] at H
      have c5b0 : (a1 == 0) = false := beq_eq_false_iff_ne.mpr c5
      have c5b1 : (a1 != 0) = true := bne_iff_ne.mpr c5
      obtain rfl := Option.some.inj H
      go_enter Try.func53, Try.ntmps53
      go_wp2
      go_ret
      exact ⟨by first | rfl | (simp; done) | (simp [*]; done), by repeat (first | exact Drawn0.refl _ | apply Drawn0.step)⟩
end Go.Proofs.Ytopebplddfhaeaa.G

namespace Go.Proofs.Ytopebplddfhaeaa.G
open Go.RowKit Go.Proofs.YtopebplddfhaeaaW.PrintWords Go.Proofs.YtopebplddfhaeaaW.PrintLast Go.Proofs.YtopebplddfhaeaaW.PrintMore
attribute [local go_sem] max2_int min2_int max_two min_two max_three min_three max_four min_four   -- for this text's walks alone
/-! palettes, told -/
def lowJ (j : Int) : List (List Int) → Int → Int
  | [], a => a
  | px :: t, a => lowJ j t (if rd px j < a then rd px j else a)
def highJ (j : Int) : List (List Int) → Int → Int
  | [], a => a
  | px :: t, a => highJ j t (if rd px j > a then rd px j else a)
def diffJ (box : List (List Int)) (j : Int) : Int := highJ j box 0 - lowJ j box 255
def wideStep (box : List (List Int)) (j : Int) (s : Int × Int) : Int × Int := if diffJ box j > s.1 then (diffJ box j, j) else s
/-- how wide a box is, and in which number -/
def wideM (box : List (List Int)) : Int × Int := wideStep box 2 (wideStep box 1 (wideStep box 0 (0, 0)))
/-- a box sorted by a number -/
def sortV (box : List (List Int)) (j v : Int) : List (List Int) := box.filter fun px => decide (rd px j = v)
def sortGo (box : List (List Int)) (j : Int) : Nat → List (List Int)
  | 0 => []
  | n + 1 => sortGo box j n ++ sortV box j n
def sortM (box : List (List Int)) (j : Int) : List (List Int) := sortGo box j 256
theorem px_rd {px : List Int} (h : isPx px = true) (j : Int) (h0 : 0 ≤ j) (h1 : j < 3) : 0 ≤ rd px j ∧ rd px j ≤ 255 ∧ px.length = 3 := by
  obtain ⟨a, b, c, rfl, ha, ha', hb, hb', hc, hc'⟩ := isPx_three h
  have : j = 0 ∨ j = 1 ∨ j = 2 := by omega
  rcases this with rfl | rfl | rfl
  · exact ⟨ha, ha', rfl⟩
  · exact ⟨hb, hb', rfl⟩
  · exact ⟨hc, hc', rfl⟩
theorem lowJ_in (j : Int) (h0 : 0 ≤ j) (h1 : j < 3) (box : List (List Int)) (hp : ∀ px ∈ box, isPx px = true) : ∀ a, 0 ≤ a → a ≤ 255 → 0 ≤ lowJ j box a ∧ lowJ j box a ≤ 255 := by
  induction box with
  | nil => intro a ha hb; exact ⟨ha, hb⟩
  | cons px t ih =>
    intro a ha hb
    have h2 := px_rd (hp px List.mem_cons_self) j h0 h1
    simp only [lowJ]
    apply ih (fun q hq => hp q (List.mem_cons_of_mem _ hq))
    · split <;> omega
    · split <;> omega
theorem highJ_in (j : Int) (h0 : 0 ≤ j) (h1 : j < 3) (box : List (List Int)) (hp : ∀ px ∈ box, isPx px = true) : ∀ a, 0 ≤ a → a ≤ 255 → 0 ≤ highJ j box a ∧ highJ j box a ≤ 255 := by
  induction box with
  | nil => intro a ha hb; exact ⟨ha, hb⟩
  | cons px t ih =>
    intro a ha hb
    have h2 := px_rd (hp px List.mem_cons_self) j h0 h1
    simp only [highJ]
    apply ih (fun q hq => hp q (List.mem_cons_of_mem _ hq))
    · split <;> omega
    · split <;> omega
theorem wideM_in (box : List (List Int)) (hp : ∀ px ∈ box, isPx px = true) : 0 ≤ (wideM box).1 ∧ (wideM box).1 ≤ 255 ∧ 0 ≤ (wideM box).2 ∧ (wideM box).2 ≤ 2 := by
  have hd : ∀ j : Int, 0 ≤ j → j < 3 → diffJ box j ≤ 255 := fun j h0 h1 => by
    have a1 := lowJ_in j h0 h1 box hp 255 (by omega) (by omega)
    have a2 := highJ_in j h0 h1 box hp 0 (by omega) (by omega)
    unfold diffJ; omega
  have step : ∀ (j : Int) (s : Int × Int), 0 ≤ j → j ≤ 2 → (0 ≤ s.1 ∧ s.1 ≤ 255 ∧ 0 ≤ s.2 ∧ s.2 ≤ 2) → (0 ≤ (wideStep box j s).1 ∧ (wideStep box j s).1 ≤ 255 ∧ 0 ≤ (wideStep box j s).2 ∧ (wideStep box j s).2 ≤ 2) := by
    intro j s h0 h1 hs
    have := hd j h0 (by omega)
    unfold wideStep
    split
    · exact ⟨by simp only []; omega, this, h0, h1⟩
    · exact hs
  exact step 2 _ (by omega) (by omega) (step 1 _ (by omega) (by omega) (step 0 _ (by omega) (by omega) ⟨by simp, by simp, by simp, by simp⟩))
/-- the boxes: which one is the widest (-1: none is wide), how wide, in which number -/
def pickGo : List (List (List Int)) → Int → Int × Int × Int → Int × Int × Int
  | [], _, s => s
  | x :: t, i, s => pickGo t (i + 1) (if (wideM x).1 > s.2.1 then (i, (wideM x).1, (wideM x).2) else s)
def pickM (boxes : List (List (List Int))) : Int × Int × Int := pickGo boxes 0 (-1, 0, 0)
/-- the widest box is parted -/
def partM (boxes : List (List (List Int))) : Option (List (List (List Int))) :=
  if (pickM boxes).1 < 0 then none
  else some (boxes.set (pickM boxes).1.toNat ((sortM (boxes.getD (pickM boxes).1.toNat []) (pickM boxes).2.2).take ((sortM (boxes.getD (pickM boxes).1.toNat []) (pickM boxes).2.2).length / 2)) ++ [(sortM (boxes.getD (pickM boxes).1.toNat []) (pickM boxes).2.2).drop ((sortM (boxes.getD (pickM boxes).1.toNat []) (pickM boxes).2.2).length / 2)])
def palGo (k : Int) : Nat → List (List (List Int)) → List (List (List Int))
  | 0, bs => bs
  | f + 1, bs => if (bs.length : Int) < k then (match partM bs with | none => bs | some bs' => palGo k f bs') else bs
def sumJ (j : Int) : List (List Int) → Int
  | [] => 0
  | px :: t => rd px j + sumJ j t
def rndM (a b : Int) : Int := (2 * a + b) / (2 * b)
def meanM (box : List (List Int)) : List Int := [rndM (sumJ 0 box) box.length, rndM (sumJ 1 box) box.length, rndM (sumJ 2 box) box.length]
def palOk (list : List (List Int)) (k : Int) : Bool := decide (list.length ≤ 4096) && list.all isPx && decide (list.length ≠ 0) && (decide (1 ≤ k) && decide (k ≤ 256))
def palM (list : List (List Int)) (k : Int) : List (List Int) := if palOk list k then (palGo k k.toNat [list]).map meanM else []
/-- boxes of pixels -/
def BoxesOk (bs : List (List (List Int))) : Prop := (∀ b ∈ bs, ∀ px ∈ b, isPx px = true) ∧ (∀ b ∈ bs, 1 ≤ b.length ∧ b.length ≤ 4096) ∧ bs.length ≤ 256
theorem sortGo_mem (box : List (List Int)) (j : Int) : ∀ n px, px ∈ sortGo box j n → px ∈ box := by
  intro n
  induction n with
  | zero => intro px h; simp [sortGo] at h
  | succ n ih =>
    intro px h
    simp only [sortGo, List.mem_append] at h
    rcases h with h | h
    · exact ih px h
    · exact (List.mem_filter.1 h).1
theorem sortGo_cons (px : List Int) (t : List (List Int)) (j : Int) : ∀ n : Nat, (sortGo (px :: t) j n).length = (sortGo t j n).length + (if 0 ≤ rd px j ∧ rd px j < n then 1 else 0) := by
  intro n
  induction n with
  | zero => rw [if_neg (by omega)]; rfl
  | succ n ih =>
    simp only [sortGo, List.length_append]
    rw [ih]
    have e : (sortV (px :: t) j n).length = (sortV t j n).length + (if rd px j = n then 1 else 0) := by
      unfold sortV
      rw [List.filter_cons]
      by_cases h : rd px j = n
      · rw [if_pos (by simpa using h), if_pos h]; simp
      · rw [if_neg (by simpa using h), if_neg h]; simp
    rw [e]
    by_cases h1 : 0 ≤ rd px j ∧ rd px j < n
    · rw [if_pos h1, if_neg (by omega), if_pos (by omega)]; omega
    · rw [if_neg h1]
      by_cases h2 : rd px j = n
      · rw [if_pos h2, if_pos (by omega)]; omega
      · rw [if_neg h2, if_neg (by omega)]; omega
theorem sortM_length (box : List (List Int)) (hp : ∀ px ∈ box, isPx px = true) (j : Int) (h0 : 0 ≤ j) (h1 : j ≤ 2) : (sortM box j).length = box.length := by
  unfold sortM
  induction box with
  | nil =>
    have : ∀ n, sortGo [] j n = [] := by
      intro n
      induction n with
      | zero => rfl
      | succ n ih => simp [sortGo, ih, sortV]
    rw [this]
  | cons px t ih =>
    rw [sortGo_cons, ih (fun q hq => hp q (List.mem_cons_of_mem _ hq))]
    have := px_rd (hp px List.mem_cons_self) j h0 (by omega)
    rw [if_pos ⟨this.1, by omega⟩]
    rfl
theorem sortM_px (box : List (List Int)) (hp : ∀ px ∈ box, isPx px = true) (j : Int) : ∀ px ∈ sortM box j, isPx px = true := fun px h => hp px (sortGo_mem box j 256 px h)
theorem pickGo_range : ∀ (bs : List (List (List Int))) (i : Int) (s : Int × Int × Int), (∀ b ∈ bs, ∀ px ∈ b, isPx px = true) → 0 ≤ i → (-1 ≤ s.1 ∧ s.1 < i ∧ 0 ≤ s.2.1 ∧ s.2.1 ≤ 255 ∧ 0 ≤ s.2.2 ∧ s.2.2 ≤ 2) → (-1 ≤ (pickGo bs i s).1 ∧ (pickGo bs i s).1 < i + bs.length ∧ 0 ≤ (pickGo bs i s).2.1 ∧ (pickGo bs i s).2.1 ≤ 255 ∧ 0 ≤ (pickGo bs i s).2.2 ∧ (pickGo bs i s).2.2 ≤ 2) := by
  intro bs
  induction bs with
  | nil => intro i s _ _ h; simpa [pickGo] using h
  | cons x t ih =>
    intro i s hp hi hs
    have hw := wideM_in x (hp x List.mem_cons_self)
    simp only [pickGo, List.length_cons]
    have := ih (i + 1) (if (wideM x).1 > s.2.1 then (i, (wideM x).1, (wideM x).2) else s) (fun b hb => hp b (List.mem_cons_of_mem _ hb)) (by omega) (by
      split
      · exact ⟨by simp only []; omega, by simp only []; omega, hw.1, hw.2.1, hw.2.2.1, hw.2.2.2⟩
      · exact ⟨hs.1, by omega, hs.2.2⟩)
    push_cast
    omega
theorem pickM_range (bs : List (List (List Int))) (h : ∀ b ∈ bs, ∀ px ∈ b, isPx px = true) : -1 ≤ (pickM bs).1 ∧ (pickM bs).1 < bs.length ∧ 0 ≤ (pickM bs).2.2 ∧ (pickM bs).2.2 ≤ 2 := by
  have := pickGo_range bs 0 (-1, 0, 0) h (by omega) ⟨by simp, by simp, by simp, by simp, by simp, by simp⟩
  unfold pickM
  omega
/-- the box that is picked is wide, so it has two pixels at least -/
theorem wide_two (box : List (List Int)) (hp : ∀ px ∈ box, isPx px = true) (h : 0 < (wideM box).1) : 2 ≤ box.length := by
  match box, hp, h with
  | [], _, h => simp [wideM, wideStep, diffJ, highJ, lowJ] at h
  | [px], hp, h =>
    exfalso
    have hd : ∀ j : Int, 0 ≤ j → j ≤ 2 → diffJ [px] j ≤ 0 := by
      intro j h0 h1
      have hr := px_rd (hp px List.mem_cons_self) j h0 (by omega)
      unfold diffJ
      simp only [highJ, lowJ]
      split <;> split <;> omega
    have step : ∀ (j : Int) (s : Int × Int), 0 ≤ j → j ≤ 2 → s.1 = 0 → (wideStep [px] j s).1 = 0 := by
      intro j s h0 h1 hs
      unfold wideStep
      rw [if_neg (by have := hd j h0 h1; omega)]
      exact hs
    have : (wideM [px]).1 = 0 := step 2 _ (by omega) (by omega) (step 1 _ (by omega) (by omega) (step 0 _ (by omega) (by omega) rfl))
    omega
  | a :: b :: t, _, _ => simp
theorem pickGo_wide : ∀ (bs : List (List (List Int))) (i : Nat) (all : List (List (List Int))) (s : Int × Int × Int), all.drop i = bs → (0 ≤ s.1 → 0 < (wideM (all.getD s.1.toNat [])).1 ∧ s.2.1 = (wideM (all.getD s.1.toNat [])).1) → (s.1 < 0 → s.2.1 = 0) →
    (0 ≤ (pickGo bs i s).1 → 0 < (wideM (all.getD (pickGo bs i s).1.toNat [])).1) := by
  intro bs
  induction bs with
  | nil => intro i all s _ h1 _ h; exact (h1 h).1
  | cons x t ih =>
    intro i all s hd h1 h2
    simp only [pickGo]
    have hi : i < all.length := by
      by_cases h : i < all.length
      · exact h
      · rw [List.drop_of_length_le (by omega)] at hd; cases hd
    have hx : all.getD i [] = x := by
      rw [List.drop_eq_getElem_cons hi] at hd
      injection hd with hd _
      rw [List.getD_eq_getElem?_getD, List.getElem?_eq_getElem hi]
      exact hd
    have ht : all.drop (i + 1) = t := by
      rw [List.drop_eq_getElem_cons hi] at hd
      injection hd
    have := ih (i + 1) all (if (wideM x).1 > s.2.1 then ((i : Int), (wideM x).1, (wideM x).2) else s) ht (by
      split
      · rename_i hc
        intro _
        simp only [Int.toNat_natCast]
        rw [hx]
        refine ⟨?_, rfl⟩
        by_cases hs : 0 ≤ s.1
        · have := h1 hs; omega
        · have := h2 (by omega); omega
      · exact h1) (by
      split
      · intro h; simp only [] at h; omega
      · exact h2)
    rw [show ((i + 1 : Nat) : Int) = (i : Int) + 1 by omega] at this
    exact this
theorem pickM_wide (bs : List (List (List Int))) (hp : ∀ b ∈ bs, ∀ px ∈ b, isPx px = true) (h : 0 ≤ (pickM bs).1) : 2 ≤ (bs.getD (pickM bs).1.toNat []).length := by
  have hr := pickM_range bs hp
  have hi : (pickM bs).1.toNat < bs.length := by omega
  refine wide_two _ ?_ (pickGo_wide bs 0 bs (-1, 0, 0) rfl (fun h => by simp at h) (fun _ => rfl) h)
  rw [List.getD_eq_getElem?_getD, List.getElem?_eq_getElem hi]
  exact hp _ (List.getElem_mem hi)
theorem partM_ok {bs bs' : List (List (List Int))} (h : BoxesOk bs) (hl : bs.length < 256) (hq : partM bs = some bs') : BoxesOk bs' ∧ bs'.length = bs.length + 1 := by
  unfold partM at hq
  split at hq
  · cases hq
  · rename_i hp
    cases hq
    have hr := pickM_range bs h.1
    have hi : (pickM bs).1.toNat < bs.length := by omega
    have hw := pickM_wide bs h.1 (by omega)
    have hg : bs.getD (pickM bs).1.toNat [] = bs[(pickM bs).1.toNat] := by rw [List.getD_eq_getElem?_getD, List.getElem?_eq_getElem hi]; rfl
    have hmem := List.getElem_mem hi
    rw [hg] at hw ⊢
    obtain ⟨box, hbox⟩ : ∃ box, box = bs[(pickM bs).1.toNat] := ⟨_, rfl⟩
    rw [← hbox] at hw hmem ⊢
    have hpx := h.1 _ hmem
    have hlen := sortM_length box hpx (pickM bs).2.2 (by omega) (by omega)
    have hsp := sortM_px box hpx (pickM bs).2.2
    have hb := h.2.1 _ hmem
    generalize sortM box (pickM bs).2.2 = s at hlen hsp ⊢
    refine ⟨⟨fun b hb px hx => ?_, fun b hb => ?_, by simp; omega⟩, by simp⟩
    · rcases List.mem_append.1 hb with hb | hb
      · rcases List.mem_or_eq_of_mem_set hb with hb | rfl
        · exact h.1 b hb px hx
        · exact hsp px (List.mem_of_mem_take hx)
      · rw [List.mem_singleton.1 hb] at hx
        exact hsp px (List.mem_of_mem_drop hx)
    · rcases List.mem_append.1 hb with hb | hb
      · rcases List.mem_or_eq_of_mem_set hb with hb | rfl
        · exact h.2.1 b hb
        · rw [List.length_take]; omega
      · rw [List.mem_singleton.1 hb, List.length_drop]; omega
theorem sumJ_snoc (j : Int) (l : List (List Int)) (px : List Int) : sumJ j (l ++ [px]) = sumJ j l + rd px j := by
  induction l with
  | nil => simp [sumJ]
  | cons x t ih => simp only [List.cons_append, sumJ]; rw [ih]; omega
theorem sumJ_take (j : Int) (box : List (List Int)) (n : Nat) (h : n < box.length) : sumJ j (box.take (n + 1)) = sumJ j (box.take n) + rd box[n] j := by
  rw [List.take_succ_eq_append_getElem h, sumJ_snoc]
theorem sumJ_in (j : Int) (h0 : 0 ≤ j) (h1 : j < 3) (box : List (List Int)) (hp : ∀ px ∈ box, isPx px = true) : 0 ≤ sumJ j box ∧ sumJ j box ≤ box.length * 255 := by
  induction box with
  | nil => simp [sumJ]
  | cons px t ih =>
    have h2 := px_rd (hp px List.mem_cons_self) j h0 h1
    have h3 := ih (fun q hq => hp q (List.mem_cons_of_mem _ hq))
    simp only [sumJ, List.length_cons]
    push_cast
    omega
theorem meanM_take (box : List (List Int)) (j : Nat) (h : j < 3) : (meanM box).take (j + 1) = (meanM box).take j ++ [rndM (sumJ j box) box.length] := by
  have : j = 0 ∨ j = 1 ∨ j = 2 := by omega
  rcases this with rfl | rfl | rfl <;> rfl
end Go.Proofs.Ytopebplddfhaeaa.G

namespace Go.Proofs.Ytopebplddfhaeaa.G
open Go.RowKit Go.Proofs.YtopebplddfhaeaaW.PrintWords Go.Proofs.YtopebplddfhaeaaW.PrintLast Go.Proofs.YtopebplddfhaeaaW.PrintMore
attribute [local go_sem] max2_int min2_int max_two min_two max_three min_three max_four min_four   -- for this text's walks alone
/-! ### spec_l05Round: function 40 -/
def spec_l05Round.f (a0 : Int) (a1 : Int) : Option (Int) := (spec_l05Floor.f (wrap64 ((wrap64 (2 * a0)) + a1)) (wrap64 (2 * a1))).bind fun t106 => (some t106)
set_option maxHeartbeats 8000000 in
set_option maxRecDepth 100000 in
theorem spec_l05Round.calls (a0 : Int) (a1 : Int) (r : Int) (w : World) (h : spec_l05Round.f a0 a1 = some r) :
    Calls Try.prog 40 #[.int .i64 a0, .int .i64 a1] w fun e w' => e = .returned (.int .i64 r) ∧ Drawn0 w w' := by
  have H : ((spec_l05Floor.f (wrap64 ((wrap64 (2 * a0)) + a1)) (wrap64 (2 * a1))).bind fun t106 => (some t106)) = some r := h
  clear h
  replace H := Option.bind_eq_some_iff.mp H
  obtain ⟨t106, A30, H⟩ := H
  replace H : (some t106) = some r := H
  have A3 := Aside0.mk A30
  clear A30
  obtain rfl := Option.some.inj H
  go_enter Try.func40, Try.ntmps40
  go_wp2_with (first | ((with_reducible refine gate_callee (f := 53) rfl ?_); refine goesL_ (some 11) rfl rfl Try.func53 (by kernel_rfl) rfl #[.int .i64 (wrap64 ((wrap64 (2 * a0)) + a1)), .int .i64 (wrap64 (2 * a1))] rfl (by (try simp only [List.map_toArray, List.map_cons, List.map_nil]); first | done | rfl | (simp only [List.length_drop, List.length_take]; rfl)) ?_; (with_reducible refine (spec_l05Floor.calls (wrap64 ((wrap64 (2 * a0)) + a1)) (wrap64 (2 * a1)) t106 _ A3.out).mono ?_); rintro e w' ⟨rfl, ⟨nd, rfl⟩⟩; refine ⟨_, rfl, ?_⟩))
  go_ret
  exact ⟨by first | rfl | (simp; done) | (simp [*]; done), by repeat (first | exact Drawn0.refl _ | apply Drawn0.step)⟩
theorem tdiv_pos (a b : Int) (ha : 0 ≤ a) : Int.tdiv a b = a / b := Int.tdiv_eq_ediv_of_nonneg ha
theorem rndM_in (a b : Int) (h0 : 0 ≤ a) (h1 : a ≤ 2000000) (h2 : 1 ≤ b) (h3 : b ≤ 4096) : 0 ≤ rndM a b ∧ rndM a b ≤ 4004096 := by
  unfold rndM
  exact ⟨Int.ediv_nonneg (by omega) (by omega), Int.le_trans (Int.ediv_le_self _ (by omega)) (by omega)⟩
theorem spec_l05Round.val (a b : Int) (h0 : 0 ≤ a) (h1 : a ≤ 2000000) (h2 : 1 ≤ b) (h3 : b ≤ 4096) : spec_l05Round.f a b = some (rndM a b) := by
  have hr := rndM_in a b h0 h1 h2 h3
  unfold spec_l05Round.f spec_l05Floor.f
  rw [wrap_in (2 * a) (by omega) (by omega), wrap_in (2 * a + b) (by omega) (by omega), wrap_in (2 * b) (by omega) (by omega), if_pos (by omega), if_neg (by omega), tdiv_pos _ _ (by omega)]
  unfold rndM at hr
  rw [wrap_in _ (by omega) (by omega)]
  rfl
end Go.Proofs.Ytopebplddfhaeaa.G

namespace Go.Proofs.Ytopebplddfhaeaa.G
open Go.RowKit Go.Proofs.YtopebplddfhaeaaW.PrintWords Go.Proofs.YtopebplddfhaeaaW.PrintLast Go.Proofs.YtopebplddfhaeaaW.PrintMore
attribute [local go_sem] max2_int min2_int max_two min_two max_three min_three max_four min_four   -- for this text's walks alone
/-! ### spec_l21Wide: function 46 -/
mutual
def spec_l21Wide.l0 : Nat → List (List Int) → Int → Int → Int → Option (Int × Int)
  | 0, _, _, _, _ => none
  | k + 1, x0, x4, x5, x6 => if x6 < 3 then (spec_l21Wide.l1 k x0 x4 x5 x6 255 0 0) else (some (x4, x5))
def spec_l21Wide.l1 : Nat → List (List Int) → Int → Int → Int → Int → Int → Int → Option (Int × Int)
  | 0, _, _, _, _, _, _, _ => none
  | k + 1, x0, x4, x5, x6, x7, x8, x9 => if x9 < (x0.length : Int) then (if 0 ≤ x9 then (if 0 ≤ x6 then (if x6 < ((rd_L2 x0 x9).length : Int) then (if (rd (rd_L2 x0 x9) x6) < x7 then (if (rd (rd_L2 x0 x9) x6) > x8 then (spec_l21Wide.l1 k x0 x4 x5 x6 (rd (rd_L2 x0 x9) x6) (rd (rd_L2 x0 x9) x6) (wrap64 (x9 + 1))) else (spec_l21Wide.l1 k x0 x4 x5 x6 (rd (rd_L2 x0 x9) x6) x8 (wrap64 (x9 + 1)))) else (if (rd (rd_L2 x0 x9) x6) > x8 then (spec_l21Wide.l1 k x0 x4 x5 x6 x7 (rd (rd_L2 x0 x9) x6) (wrap64 (x9 + 1))) else (spec_l21Wide.l1 k x0 x4 x5 x6 x7 x8 (wrap64 (x9 + 1))))) else (none)) else (none)) else (none)) else (if (wrap64 (x8 - x7)) > x4 then (spec_l21Wide.l0 k x0 (wrap64 (x8 - x7)) x6 (wrap64 (x6 + 1))) else (spec_l21Wide.l0 k x0 x4 x5 (wrap64 (x6 + 1))))
end
def spec_l21Wide.f (k : Nat) (l0 : List (List Int)) : Option (Int × Int) := spec_l21Wide.l0 k l0 0 0 0
theorem spec_l21Wide.mono_l : ∀ k, (∀ y0 y1 y2 y3, LeO (spec_l21Wide.l0 k y0 y1 y2 y3) (spec_l21Wide.l0 (k + 1) y0 y1 y2 y3)) ∧ (∀ y0 y1 y2 y3 y4 y5 y6, LeO (spec_l21Wide.l1 k y0 y1 y2 y3 y4 y5 y6) (spec_l21Wide.l1 (k + 1) y0 y1 y2 y3 y4 y5 y6))
  | 0 => ⟨fun _ _ _ _ r h => by simp [spec_l21Wide.l0] at h, fun _ _ _ _ _ _ _ r h => by simp [spec_l21Wide.l1] at h⟩
  | k + 1 => by
    obtain ⟨ih0, ih1⟩ := spec_l21Wide.mono_l k
    refine ⟨?_, ?_⟩
    · intro y0 y1 y2 y3
      unfold spec_l21Wide.l0
      repeat' first
      | (with_reducible exact ih0 _ _ _ _)
      | (with_reducible exact ih1 _ _ _ _ _ _ _)
      | (with_reducible exact LeO.refl _)
      | (with_reducible exact LeO.none _)
      | (with_reducible refine LeO.ite ?_ ?_)
      | (with_reducible refine LeO.bind ?_ (fun _ => ?_))
      | exact ih0 _ _ _ _
      | exact ih1 _ _ _ _ _ _ _
      | exact LeO.none _
      | refine LeO.ite ?_ ?_
      | refine LeO.bind ?_ (fun _ => ?_)
    · intro y0 y1 y2 y3 y4 y5 y6
      unfold spec_l21Wide.l1
      repeat' first
      | (with_reducible exact ih0 _ _ _ _)
      | (with_reducible exact ih1 _ _ _ _ _ _ _)
      | (with_reducible exact LeO.refl _)
      | (with_reducible exact LeO.none _)
      | (with_reducible refine LeO.ite ?_ ?_)
      | (with_reducible refine LeO.bind ?_ (fun _ => ?_))
      | exact ih0 _ _ _ _
      | exact ih1 _ _ _ _ _ _ _
      | exact LeO.none _
      | refine LeO.ite ?_ ?_
      | refine LeO.bind ?_ (fun _ => ?_)
theorem spec_l21Wide.mono : ∀ a0 k, LeO (spec_l21Wide.f k a0) (spec_l21Wide.f (k + 1) a0) := by
  intro a0 k
  obtain ⟨ih0, ih1⟩ := spec_l21Wide.mono_l k
  unfold spec_l21Wide.f
  repeat' first
      | (with_reducible exact ih0 _ _ _ _)
      | (with_reducible exact ih1 _ _ _ _ _ _ _)
      | (with_reducible exact LeO.refl _)
      | (with_reducible exact LeO.none _)
      | (with_reducible refine LeO.ite ?_ ?_)
      | (with_reducible refine LeO.bind ?_ (fun _ => ?_))
      | exact ih0 _ _ _ _
      | exact ih1 _ _ _ _ _ _ _
      | exact LeO.none _
      | refine LeO.ite ?_ ?_
      | refine LeO.bind ?_ (fun _ => ?_)
set_option maxHeartbeats 8000000 in
set_option maxRecDepth 100000 in
theorem spec_l21Wide.calls (k : Nat) (A0 : Option Addr) (c0 : Nat) (l0 : List (List Int)) (r1 : Int) (r2 : Int) (w : World) (hr0 : Kd.C (Kd.slice 3 (Kd.int .i64)) w A0 l0.length l0) (hc0 : l0.length ≤ c0) (h : spec_l21Wide.f k l0 = some (r1, r2)) :
    Calls Try.prog 46 #[.slice A0 l0.length c0] w fun e w' => e = .returned (.tuple #[.int .i64 r1, .int .i64 r2]) ∧ Drawn0 w w' := by
  have HR0 := Aside0.mk hr0
  have HC0 := Aside0.mk hc0
  clear hr0 hc0
  have H : (spec_l21Wide.l0 k l0 0 0 0) = some (r1, r2) := h
  clear h
  have H' := Aside0.mk H
  clear H
  go_enter Try.func46, Try.ntmps46
  go_wp2
  go_loopg [4, 5, 6] k (fun kq v4 v5 v6 w' => ∃ (x4_1 : Int) (x5_1 : Int) (x6_1 : Int), v4 = .int .i64 x4_1 ∧ v5 = .int .i64 x5_1 ∧ v6 = .int .i64 x6_1 ∧ Aside0 (spec_l21Wide.l0 kq l0 x4_1 x5_1 x6_1 = some (r1, r2)) ∧ Aside0 (kq ≤ k) ∧ Drawn0 w w')
  case atStart => exact ⟨(0), (0), (0), (by first | rfl | (simp; done) | (simp [*]; done)), (by first | rfl | (simp; done) | (simp [*]; done)), (by first | rfl | (simp; done) | (simp [*]; done)), H', ⟨Nat.le_refl _⟩, by repeat (first | exact Drawn0.refl _ | apply Drawn0.step)⟩
  case round =>
    clear H'
    obtain ⟨x4_1, x5_1, x6_1, rfl, rfl, rfl, HA, HK1, ⟨m1, rfl⟩⟩ := hrel
    cases gk with
    | zero => exact absurd HA.out (by simp [spec_l21Wide.l0])
    | succ k1 =>
      have H := HA.out
      clear HA
      simp only [spec_l21Wide.l0] at H
      by_cases c2 : x6_1 < 3
      · rw [if_pos c2] at H
        have c2b0 : decide (x6_1 < 3) = true := decide_eq_true c2
        clear c2
        have H' := Aside0.mk H
        clear H
        go_wp2
        go_loopg [7, 8, 9] k1 (fun kq v7 v8 v9 w' => ∃ (x7_2 : Int) (x8_2 : Int) (x9_2 : Int), v7 = .int .i64 x7_2 ∧ v8 = .int .i64 x8_2 ∧ v9 = .int .i64 x9_2 ∧ Aside0 (spec_l21Wide.l1 kq l0 x4_1 x5_1 x6_1 x7_2 x8_2 x9_2 = some (r1, r2)) ∧ Aside0 (kq ≤ k1) ∧ Drawn0 w w')
        case atStart => exact ⟨(255), (0), (0), (by first | rfl | (simp; done) | (simp [*]; done)), (by first | rfl | (simp; done) | (simp [*]; done)), (by first | rfl | (simp; done) | (simp [*]; done)), H', ⟨Nat.le_refl _⟩, by repeat (first | exact Drawn0.refl _ | apply Drawn0.step)⟩
        case round =>
          clear H'
          try clear c2
          try clear c2b0
          try clear p2
          obtain ⟨x7_2, x8_2, x9_2, rfl, rfl, rfl, HA, HK2, ⟨m2, rfl⟩⟩ := hrel
          cases gk with
          | zero => exact absurd HA.out (by simp [spec_l21Wide.l1])
          | succ k2 =>
            have H := HA.out
            clear HA
            simp only [spec_l21Wide.l1] at H
            by_cases c3 : x9_2 < (l0.length : Int)
            · rw [if_pos c3] at H
              have c3b0 : decide (x9_2 < (l0.length : Int)) = true := decide_eq_true c3
              clear c3
              by_cases c4 : 0 ≤ x9_2
              · rw [if_pos c4] at H
                have c4b0 : decide (0 ≤ x9_2) = true := decide_eq_true c4
                clear c4
                by_cases c5 : 0 ≤ x6_1
                · rw [if_pos c5] at H
                  have c5b0 : decide (0 ≤ x6_1) = true := decide_eq_true c5
                  clear c5
                  by_cases c6 : x6_1 < ((rd_L2 l0 x9_2).length : Int)
                  · rw [if_pos c6] at H
                    have c6b0 : decide (x6_1 < ((rd_L2 l0 x9_2).length : Int)) = true := decide_eq_true c6
                    clear c6
                    by_cases c7 : (rd (rd_L2 l0 x9_2) x6_1) < x7_2
                    · rw [if_pos c7] at H
                      have c7b0 : decide ((rd (rd_L2 l0 x9_2) x6_1) < x7_2) = true := decide_eq_true c7
                      clear c7
                      by_cases c8 : (rd (rd_L2 l0 x9_2) x6_1) > x8_2
                      · rw [if_pos c8] at H
                        have c8b0 : decide (x8_2 < (rd (rd_L2 l0 x9_2) x6_1)) = true := decide_eq_true c8
                        clear c8
                        have H' := Aside0.mk H
                        clear H
                        have p107 : 0 ≤ (x9_2 : Int) := of_decide_eq_true (by first | (with_reducible assumption) | assumption)
                        have q107 : x9_2 < (l0.length : Int) := of_decide_eq_true (by first | (with_reducible assumption) | assumption)
                        obtain ⟨ad107, A107_0, c107_0, e107, hx107_0, hl107_0, hi107_0⟩ := at_L2 HR0.out x9_2 p107 q107
                        cases e107
                        have HR107_0 := Aside0.mk hi107_0
                        have HC107_0 := Aside0.mk hl107_0
                        clear hi107_0 hl107_0
                        replace p107 := eq_true p107
                        replace q107 := eq_true q107
                        have p108 : 0 ≤ (x6_1 : Int) := of_decide_eq_true (by first | (with_reducible assumption) | assumption)
                        have q108 : x6_1 < ((rd_L2 l0 x9_2).length : Int) := of_decide_eq_true (by first | (with_reducible assumption) | assumption)
                        obtain ⟨ad108, e108, hx108_0⟩ := Kd.at_int HR107_0.out x6_1 p108 q108
                        cases e108
                        replace p108 := eq_true p108
                        replace q108 := eq_true q108
                        have p109 : 0 ≤ (x9_2 : Int) := of_decide_eq_true (by first | (with_reducible assumption) | assumption)
                        have q109 : x9_2 < (l0.length : Int) := of_decide_eq_true (by first | (with_reducible assumption) | assumption)
                        obtain ⟨ad109, A109_0, c109_0, e109, hx109_0, hl109_0, hi109_0⟩ := at_L2 HR0.out x9_2 p109 q109
                        obtain rfl : ad107 = ad109 := (by injection e109)
                        have HR109_0 := Aside0.mk hi109_0
                        have HC109_0 := Aside0.mk hl109_0
                        clear hi109_0 hl109_0
                        replace p109 := eq_true p109
                        replace q109 := eq_true q109
                        have ea_ := Option.some.inj (hx107_0.symm.trans hx109_0)
                        injection ea_ with ea_ en_ ec_
                        subst ea_
                        subst ec_
                        clear en_
                        have p110 : 0 ≤ (x6_1 : Int) := of_decide_eq_true (by first | (with_reducible assumption) | assumption)
                        have q110 : x6_1 < ((rd_L2 l0 x9_2).length : Int) := of_decide_eq_true (by first | (with_reducible assumption) | assumption)
                        obtain ⟨ad110, e110, hx110_0⟩ := Kd.at_int HR109_0.out x6_1 p110 q110
                        cases e110
                        replace p110 := eq_true p110
                        replace q110 := eq_true q110
                        have p111 : 0 ≤ (x9_2 : Int) := of_decide_eq_true (by first | (with_reducible assumption) | assumption)
                        have q111 : x9_2 < (l0.length : Int) := of_decide_eq_true (by first | (with_reducible assumption) | assumption)
                        obtain ⟨ad111, A111_0, c111_0, e111, hx111_0, hl111_0, hi111_0⟩ := at_L2 HR0.out x9_2 p111 q111
                        obtain rfl : ad107 = ad111 := (by injection e111)
                        have HR111_0 := Aside0.mk hi111_0
                        have HC111_0 := Aside0.mk hl111_0
                        clear hi111_0 hl111_0
                        replace p111 := eq_true p111
                        replace q111 := eq_true q111
                        have ea_ := Option.some.inj (hx107_0.symm.trans hx111_0)
                        injection ea_ with ea_ en_ ec_
                        subst ea_
                        subst ec_
                        clear en_
                        have p112 : 0 ≤ (x6_1 : Int) := of_decide_eq_true (by first | (with_reducible assumption) | assumption)
                        have q112 : x6_1 < ((rd_L2 l0 x9_2).length : Int) := of_decide_eq_true (by first | (with_reducible assumption) | assumption)
                        obtain ⟨ad112, e112, hx112_0⟩ := Kd.at_int HR111_0.out x6_1 p112 q112
                        cases e112
                        replace p112 := eq_true p112
                        replace q112 := eq_true q112
                        have p113 : 0 ≤ (x9_2 : Int) := of_decide_eq_true (by first | (with_reducible assumption) | assumption)
                        have q113 : x9_2 < (l0.length : Int) := of_decide_eq_true (by first | (with_reducible assumption) | assumption)
                        obtain ⟨ad113, A113_0, c113_0, e113, hx113_0, hl113_0, hi113_0⟩ := at_L2 HR0.out x9_2 p113 q113
                        obtain rfl : ad107 = ad113 := (by injection e113)
                        have HR113_0 := Aside0.mk hi113_0
                        have HC113_0 := Aside0.mk hl113_0
                        clear hi113_0 hl113_0
                        replace p113 := eq_true p113
                        replace q113 := eq_true q113
                        have ea_ := Option.some.inj (hx107_0.symm.trans hx113_0)
                        injection ea_ with ea_ en_ ec_
                        subst ea_
                        subst ec_
                        clear en_
                        have p114 : 0 ≤ (x6_1 : Int) := of_decide_eq_true (by first | (with_reducible assumption) | assumption)
                        have q114 : x6_1 < ((rd_L2 l0 x9_2).length : Int) := of_decide_eq_true (by first | (with_reducible assumption) | assumption)
                        obtain ⟨ad114, e114, hx114_0⟩ := Kd.at_int HR113_0.out x6_1 p114 q114
                        cases e114
                        replace p114 := eq_true p114
                        replace q114 := eq_true q114
                        go_wp2
                        go_roundg k2
                        case measure => have := HK1.out; have := HK2.out; omega
                        case rel => exact ⟨(rd (rd_L2 l0 x9_2) x6_1), (rd (rd_L2 l0 x9_2) x6_1), (wrap64 (x9_2 + 1)), (by first | rfl | (simp; done) | (simp [*]; done)), (by first | rfl | (simp; done) | (simp [*]; done)), (by first | rfl | (simp; done) | (simp [*]; done)), H', ⟨by have := HK1.out; have := HK2.out; omega⟩, by repeat (first | exact Drawn0.refl _ | apply Drawn0.step)⟩
                      · rw [if_neg c8] at H
                        have c8b0 : decide (x8_2 < (rd (rd_L2 l0 x9_2) x6_1)) = false := decide_eq_false c8
                        clear c8
                        have H' := Aside0.mk H
                        clear H
                        have p107 : 0 ≤ (x9_2 : Int) := of_decide_eq_true (by first | (with_reducible assumption) | assumption)
                        have q107 : x9_2 < (l0.length : Int) := of_decide_eq_true (by first | (with_reducible assumption) | assumption)
                        obtain ⟨ad107, A107_0, c107_0, e107, hx107_0, hl107_0, hi107_0⟩ := at_L2 HR0.out x9_2 p107 q107
                        cases e107
                        have HR107_0 := Aside0.mk hi107_0
                        have HC107_0 := Aside0.mk hl107_0
                        clear hi107_0 hl107_0
                        replace p107 := eq_true p107
                        replace q107 := eq_true q107
                        have p108 : 0 ≤ (x6_1 : Int) := of_decide_eq_true (by first | (with_reducible assumption) | assumption)
                        have q108 : x6_1 < ((rd_L2 l0 x9_2).length : Int) := of_decide_eq_true (by first | (with_reducible assumption) | assumption)
                        obtain ⟨ad108, e108, hx108_0⟩ := Kd.at_int HR107_0.out x6_1 p108 q108
                        cases e108
                        replace p108 := eq_true p108
                        replace q108 := eq_true q108
                        have p109 : 0 ≤ (x9_2 : Int) := of_decide_eq_true (by first | (with_reducible assumption) | assumption)
                        have q109 : x9_2 < (l0.length : Int) := of_decide_eq_true (by first | (with_reducible assumption) | assumption)
                        obtain ⟨ad109, A109_0, c109_0, e109, hx109_0, hl109_0, hi109_0⟩ := at_L2 HR0.out x9_2 p109 q109
                        obtain rfl : ad107 = ad109 := (by injection e109)
                        have HR109_0 := Aside0.mk hi109_0
                        have HC109_0 := Aside0.mk hl109_0
                        clear hi109_0 hl109_0
                        replace p109 := eq_true p109
                        replace q109 := eq_true q109
                        have ea_ := Option.some.inj (hx107_0.symm.trans hx109_0)
                        injection ea_ with ea_ en_ ec_
                        subst ea_
                        subst ec_
                        clear en_
                        have p110 : 0 ≤ (x6_1 : Int) := of_decide_eq_true (by first | (with_reducible assumption) | assumption)
                        have q110 : x6_1 < ((rd_L2 l0 x9_2).length : Int) := of_decide_eq_true (by first | (with_reducible assumption) | assumption)
                        obtain ⟨ad110, e110, hx110_0⟩ := Kd.at_int HR109_0.out x6_1 p110 q110
                        cases e110
                        replace p110 := eq_true p110
                        replace q110 := eq_true q110
                        have p111 : 0 ≤ (x9_2 : Int) := of_decide_eq_true (by first | (with_reducible assumption) | assumption)
                        have q111 : x9_2 < (l0.length : Int) := of_decide_eq_true (by first | (with_reducible assumption) | assumption)
                        obtain ⟨ad111, A111_0, c111_0, e111, hx111_0, hl111_0, hi111_0⟩ := at_L2 HR0.out x9_2 p111 q111
                        obtain rfl : ad107 = ad111 := (by injection e111)
                        have HR111_0 := Aside0.mk hi111_0
                        have HC111_0 := Aside0.mk hl111_0
                        clear hi111_0 hl111_0
                        replace p111 := eq_true p111
                        replace q111 := eq_true q111
                        have ea_ := Option.some.inj (hx107_0.symm.trans hx111_0)
                        injection ea_ with ea_ en_ ec_
                        subst ea_
                        subst ec_
                        clear en_
                        have p112 : 0 ≤ (x6_1 : Int) := of_decide_eq_true (by first | (with_reducible assumption) | assumption)
                        have q112 : x6_1 < ((rd_L2 l0 x9_2).length : Int) := of_decide_eq_true (by first | (with_reducible assumption) | assumption)
                        obtain ⟨ad112, e112, hx112_0⟩ := Kd.at_int HR111_0.out x6_1 p112 q112
                        cases e112
                        replace p112 := eq_true p112
                        replace q112 := eq_true q112
                        go_wp2
                        go_roundg k2
                        case measure => have := HK1.out; have := HK2.out; omega
                        case rel => exact ⟨(rd (rd_L2 l0 x9_2) x6_1), (x8_2), (wrap64 (x9_2 + 1)), (by first | rfl | (simp; done) | (simp [*]; done)), (by first | rfl | (simp; done) | (simp [*]; done)), (by first | rfl | (simp; done) | (simp [*]; done)), H', ⟨by have := HK1.out; have := HK2.out; omega⟩, by repeat (first | exact Drawn0.refl _ | apply Drawn0.step)⟩
                    · rw [if_neg c7] at H
                      have c7b0 : decide ((rd (rd_L2 l0 x9_2) x6_1) < x7_2) = false := decide_eq_false c7
                      clear c7
                      by_cases c9 : (rd (rd_L2 l0 x9_2) x6_1) > x8_2
                      · rw [if_pos c9] at H
                        have c9b0 : decide (x8_2 < (rd (rd_L2 l0 x9_2) x6_1)) = true := decide_eq_true c9
                        clear c9
                        have H' := Aside0.mk H
                        clear H
                        have p107 : 0 ≤ (x9_2 : Int) := of_decide_eq_true (by first | (with_reducible assumption) | assumption)
                        have q107 : x9_2 < (l0.length : Int) := of_decide_eq_true (by first | (with_reducible assumption) | assumption)
                        obtain ⟨ad107, A107_0, c107_0, e107, hx107_0, hl107_0, hi107_0⟩ := at_L2 HR0.out x9_2 p107 q107
                        cases e107
                        have HR107_0 := Aside0.mk hi107_0
                        have HC107_0 := Aside0.mk hl107_0
                        clear hi107_0 hl107_0
                        replace p107 := eq_true p107
                        replace q107 := eq_true q107
                        have p108 : 0 ≤ (x6_1 : Int) := of_decide_eq_true (by first | (with_reducible assumption) | assumption)
                        have q108 : x6_1 < ((rd_L2 l0 x9_2).length : Int) := of_decide_eq_true (by first | (with_reducible assumption) | assumption)
                        obtain ⟨ad108, e108, hx108_0⟩ := Kd.at_int HR107_0.out x6_1 p108 q108
                        cases e108
                        replace p108 := eq_true p108
                        replace q108 := eq_true q108
                        have p115 : 0 ≤ (x9_2 : Int) := of_decide_eq_true (by first | (with_reducible assumption) | assumption)
                        have q115 : x9_2 < (l0.length : Int) := of_decide_eq_true (by first | (with_reducible assumption) | assumption)
                        obtain ⟨ad115, A115_0, c115_0, e115, hx115_0, hl115_0, hi115_0⟩ := at_L2 HR0.out x9_2 p115 q115
                        obtain rfl : ad107 = ad115 := (by injection e115)
                        have HR115_0 := Aside0.mk hi115_0
                        have HC115_0 := Aside0.mk hl115_0
                        clear hi115_0 hl115_0
                        replace p115 := eq_true p115
                        replace q115 := eq_true q115
                        have ea_ := Option.some.inj (hx107_0.symm.trans hx115_0)
                        injection ea_ with ea_ en_ ec_
                        subst ea_
                        subst ec_
                        clear en_
                        have p116 : 0 ≤ (x6_1 : Int) := of_decide_eq_true (by first | (with_reducible assumption) | assumption)
                        have q116 : x6_1 < ((rd_L2 l0 x9_2).length : Int) := of_decide_eq_true (by first | (with_reducible assumption) | assumption)
                        obtain ⟨ad116, e116, hx116_0⟩ := Kd.at_int HR115_0.out x6_1 p116 q116
                        cases e116
                        replace p116 := eq_true p116
                        replace q116 := eq_true q116
                        have p117 : 0 ≤ (x9_2 : Int) := of_decide_eq_true (by first | (with_reducible assumption) | assumption)
                        have q117 : x9_2 < (l0.length : Int) := of_decide_eq_true (by first | (with_reducible assumption) | assumption)
                        obtain ⟨ad117, A117_0, c117_0, e117, hx117_0, hl117_0, hi117_0⟩ := at_L2 HR0.out x9_2 p117 q117
                        obtain rfl : ad107 = ad117 := (by injection e117)
                        have HR117_0 := Aside0.mk hi117_0
                        have HC117_0 := Aside0.mk hl117_0
                        clear hi117_0 hl117_0
                        replace p117 := eq_true p117
                        replace q117 := eq_true q117
                        have ea_ := Option.some.inj (hx107_0.symm.trans hx117_0)
                        injection ea_ with ea_ en_ ec_
                        subst ea_
                        subst ec_
                        clear en_
                        have p118 : 0 ≤ (x6_1 : Int) := of_decide_eq_true (by first | (with_reducible assumption) | assumption)
                        have q118 : x6_1 < ((rd_L2 l0 x9_2).length : Int) := of_decide_eq_true (by first | (with_reducible assumption) | assumption)
                        obtain ⟨ad118, e118, hx118_0⟩ := Kd.at_int HR117_0.out x6_1 p118 q118
                        cases e118
                        replace p118 := eq_true p118
                        replace q118 := eq_true q118
                        go_wp2
                        go_roundg k2
                        case measure => have := HK1.out; have := HK2.out; omega
                        case rel => exact ⟨(x7_2), (rd (rd_L2 l0 x9_2) x6_1), (wrap64 (x9_2 + 1)), (by first | rfl | (simp; done) | (simp [*]; done)), (by first | rfl | (simp; done) | (simp [*]; done)), (by first | rfl | (simp; done) | (simp [*]; done)), H', ⟨by have := HK1.out; have := HK2.out; omega⟩, by repeat (first | exact Drawn0.refl _ | apply Drawn0.step)⟩
                      · rw [if_neg c9] at H
                        have c9b0 : decide (x8_2 < (rd (rd_L2 l0 x9_2) x6_1)) = false := decide_eq_false c9
                        clear c9
                        have H' := Aside0.mk H
                        clear H
                        have p107 : 0 ≤ (x9_2 : Int) := of_decide_eq_true (by first | (with_reducible assumption) | assumption)
                        have q107 : x9_2 < (l0.length : Int) := of_decide_eq_true (by first | (with_reducible assumption) | assumption)
                        obtain ⟨ad107, A107_0, c107_0, e107, hx107_0, hl107_0, hi107_0⟩ := at_L2 HR0.out x9_2 p107 q107
                        cases e107
                        have HR107_0 := Aside0.mk hi107_0
                        have HC107_0 := Aside0.mk hl107_0
                        clear hi107_0 hl107_0
                        replace p107 := eq_true p107
                        replace q107 := eq_true q107
                        have p108 : 0 ≤ (x6_1 : Int) := of_decide_eq_true (by first | (with_reducible assumption) | assumption)
                        have q108 : x6_1 < ((rd_L2 l0 x9_2).length : Int) := of_decide_eq_true (by first | (with_reducible assumption) | assumption)
                        obtain ⟨ad108, e108, hx108_0⟩ := Kd.at_int HR107_0.out x6_1 p108 q108
                        cases e108
                        replace p108 := eq_true p108
                        replace q108 := eq_true q108
                        have p115 : 0 ≤ (x9_2 : Int) := of_decide_eq_true (by first | (with_reducible assumption) | assumption)
                        have q115 : x9_2 < (l0.length : Int) := of_decide_eq_true (by first | (with_reducible assumption) | assumption)
                        obtain ⟨ad115, A115_0, c115_0, e115, hx115_0, hl115_0, hi115_0⟩ := at_L2 HR0.out x9_2 p115 q115
                        obtain rfl : ad107 = ad115 := (by injection e115)
                        have HR115_0 := Aside0.mk hi115_0
                        have HC115_0 := Aside0.mk hl115_0
                        clear hi115_0 hl115_0
                        replace p115 := eq_true p115
                        replace q115 := eq_true q115
                        have ea_ := Option.some.inj (hx107_0.symm.trans hx115_0)
                        injection ea_ with ea_ en_ ec_
                        subst ea_
                        subst ec_
                        clear en_
                        have p116 : 0 ≤ (x6_1 : Int) := of_decide_eq_true (by first | (with_reducible assumption) | assumption)
                        have q116 : x6_1 < ((rd_L2 l0 x9_2).length : Int) := of_decide_eq_true (by first | (with_reducible assumption) | assumption)
                        obtain ⟨ad116, e116, hx116_0⟩ := Kd.at_int HR115_0.out x6_1 p116 q116
                        cases e116
                        replace p116 := eq_true p116
                        replace q116 := eq_true q116
                        go_wp2
                        go_roundg k2
                        case measure => have := HK1.out; have := HK2.out; omega
                        case rel => exact ⟨(x7_2), (x8_2), (wrap64 (x9_2 + 1)), (by first | rfl | (simp; done) | (simp [*]; done)), (by first | rfl | (simp; done) | (simp [*]; done)), (by first | rfl | (simp; done) | (simp [*]; done)), H', ⟨by have := HK1.out; have := HK2.out; omega⟩, by repeat (first | exact Drawn0.refl _ | apply Drawn0.step)⟩
                  · rw [if_neg c6] at H
                    exact absurd H (by simp)
                · rw [if_neg c5] at H
                  exact absurd H (by simp)
              · rw [if_neg c4] at H
                exact absurd H (by simp)
            · rw [if_neg c3] at H
              have c3b0 : decide (x9_2 < (l0.length : Int)) = false := decide_eq_false c3
              clear c3
              by_cases c10 : (wrap64 (x8_2 - x7_2)) > x4_1
              · rw [if_pos c10] at H
                have c10b0 : decide (x4_1 < (wrap64 (x8_2 - x7_2))) = true := decide_eq_true c10
                clear c10
                have H' := Aside0.mk H
                clear H
                go_wp2
                go_roundg k2
                case measure => have := HK1.out; have := HK2.out; omega
                case rel => exact ⟨(wrap64 (x8_2 - x7_2)), (x6_1), (wrap64 (x6_1 + 1)), (by first | rfl | (simp; done) | (simp [*]; done)), (by first | rfl | (simp; done) | (simp [*]; done)), (by first | rfl | (simp; done) | (simp [*]; done)), H', ⟨by have := HK1.out; have := HK2.out; omega⟩, by repeat (first | exact Drawn0.refl _ | apply Drawn0.step)⟩
              · rw [if_neg c10] at H
                have c10b0 : decide (x4_1 < (wrap64 (x8_2 - x7_2))) = false := decide_eq_false c10
                clear c10
                have H' := Aside0.mk H
                clear H
                go_wp2
                go_roundg k2
                case measure => have := HK1.out; have := HK2.out; omega
                case rel => exact ⟨(x4_1), (x5_1), (wrap64 (x6_1 + 1)), (by first | rfl | (simp; done) | (simp [*]; done)), (by first | rfl | (simp; done) | (simp [*]; done)), (by first | rfl | (simp; done) | (simp [*]; done)), H', ⟨by have := HK1.out; have := HK2.out; omega⟩, by repeat (first | exact Drawn0.refl _ | apply Drawn0.step)⟩
      · rw [if_neg c2] at H
        have c2b0 : decide (x6_1 < 3) = false := decide_eq_false c2
        clear c2
        simp only [Option.some.injEq, Prod.mk.injEq] at H
        obtain ⟨rfl, rfl⟩ := H
        go_wp2
        go_ret2
        exact ⟨by first | rfl | (simp; done) | (simp [*]; done), by repeat (first | exact Drawn0.refl _ | apply Drawn0.step)⟩
theorem spec_l21Wide.ev (box : List (List Int)) (hp : ∀ px ∈ box, isPx px = true) (hl : box.length ≤ 1048576) : Ev (fun k => spec_l21Wide.f k box) (wideM box) := by
  unfold spec_l21Wide.f
  have inner : ∀ (j : Nat) (s : Int × Int) (R : Int × Int), j ≤ 2 → Ev (fun k => spec_l21Wide.l0 k box (wideStep box j s).1 (wideStep box j s).2 ((j + 1 : Nat) : Int)) R →
      ∀ d i : Nat, ∀ lo hi : Int, box.length - i = d → i ≤ box.length → lowJ j (box.drop i) lo = lowJ j box 255 → highJ j (box.drop i) hi = highJ j box 0 → Ev (fun k => spec_l21Wide.l1 k box s.1 s.2 (j : Int) lo hi (i : Int)) R := by
    intro j s R hj hn d
    have a1 := lowJ_in j (by omega) (by omega) box hp 255 (by omega) (by omega)
    have a2 := highJ_in j (by omega) (by omega) box hp 0 (by omega) (by omega)
    induction d with
    | zero =>
      intro i lo hi hd hi' h1 h2
      rw [List.drop_of_length_le (by omega)] at h1 h2
      simp only [lowJ, highJ] at h1 h2
      refine Ev.step (fun _ => by rw [spec_l21Wide.l1]) (Ev.ng (by omega) ?_)
      rw [h1, h2, wrap_in _ (by omega) (by omega), wrap_succ j (by omega)]
      unfold wideStep at hn
      by_cases hc : diffJ box j > s.1
      · rw [if_pos hc] at hn; exact Ev.ip hc hn
      · rw [if_neg hc] at hn; exact Ev.ng hc hn
    | succ d ih =>
      intro i lo hi hd hi' h1 h2
      have hlt : i < box.length := by omega
      have hx := px_rd (hp _ (List.getElem_mem hlt)) j (by omega) (by omega)
      rw [List.drop_eq_getElem_cons hlt] at h1 h2
      simp only [lowJ, highJ] at h1 h2
      have e : rd_L2 box (i : Int) = box[i] := by simp [rd_L2, hlt]
      refine Ev.step (fun _ => by rw [spec_l21Wide.l1]) (Ev.ip (by omega) (Ev.ip (by omega) (Ev.ip (by omega) ?_)))
      rw [e, wrap_succ i (by omega)]
      refine Ev.ip (by omega) ?_
      by_cases c1 : rd box[i] (j : Int) < lo
      · rw [if_pos c1] at h1
        by_cases c2 : rd box[i] (j : Int) > hi
        · rw [if_pos c2] at h2
          exact Ev.ip c1 (Ev.ip c2 (ih (i + 1) _ _ (by omega) (by omega) h1 h2))
        · rw [if_neg c2] at h2
          exact Ev.ip c1 (Ev.ng c2 (ih (i + 1) _ _ (by omega) (by omega) h1 h2))
      · rw [if_neg c1] at h1
        by_cases c2 : rd box[i] (j : Int) > hi
        · rw [if_pos c2] at h2
          exact Ev.ng c1 (Ev.ip c2 (ih (i + 1) _ _ (by omega) (by omega) h1 h2))
        · rw [if_neg c2] at h2
          exact Ev.ng c1 (Ev.ng c2 (ih (i + 1) _ _ (by omega) (by omega) h1 h2))
  have outer : ∀ (j : Nat) (s : Int × Int) (R : Int × Int), j ≤ 2 → Ev (fun k => spec_l21Wide.l0 k box (wideStep box j s).1 (wideStep box j s).2 ((j + 1 : Nat) : Int)) R → Ev (fun k => spec_l21Wide.l0 k box s.1 s.2 (j : Int)) R :=
    by
      intro j s R hj hn
      refine Ev.step (fun _ => by rw [spec_l21Wide.l0]) (Ev.ip (by omega) ?_)
      have h := inner j s R hj hn _ 0 255 0 rfl (by omega) (by simp) (by simp)
      exact h
  have last : Ev (fun k => spec_l21Wide.l0 k box (wideM box).1 (wideM box).2 ((2 + 1 : Nat) : Int)) (wideM box) := by
    refine Ev.step (fun _ => by rw [spec_l21Wide.l0]) ?_
    refine Ev.ng (by decide) ?_
    exact Ev.now _
  have := outer 0 (0, 0) _ (by omega) (outer 1 _ _ (by omega) (outer 2 _ _ (by omega) last))
  exact this
end Go.Proofs.Ytopebplddfhaeaa.G

namespace Go.Proofs.Ytopebplddfhaeaa.G
open Go.RowKit Go.Proofs.YtopebplddfhaeaaW.PrintWords Go.Proofs.YtopebplddfhaeaaW.PrintLast Go.Proofs.YtopebplddfhaeaaW.PrintMore
attribute [local go_sem] max2_int min2_int max_two min_two max_three min_three max_four min_four   -- for this text's walks alone
/-! ### spec_l21Sort: function 47 -/
mutual
def spec_l21Sort.l0 : Nat → List (List Int) → Int → List (List Int) → Int → Option ((List (List Int)))
  | 0, _, _, _, _ => none
  | k + 1, x0, x1, x5, x6 => if x6 < 256 then (spec_l21Sort.l1 k x0 x1 x5 x6 0) else (some x5)
def spec_l21Sort.l1 : Nat → List (List Int) → Int → List (List Int) → Int → Int → Option ((List (List Int)))
  | 0, _, _, _, _, _ => none
  | k + 1, x0, x1, x5, x6, x7 => if x7 < (x0.length : Int) then (if 0 ≤ x7 then (if 0 ≤ x1 then (if x1 < ((rd_L2 x0 x7).length : Int) then (if (rd (rd_L2 x0 x7) x1) = x6 then (if x5.length < 5864062014805 then (spec_l21Sort.l1 k x0 x1 (x5 ++ [rd_L2 x0 x7]) x6 (wrap64 (x7 + 1))) else (none)) else (spec_l21Sort.l1 k x0 x1 x5 x6 (wrap64 (x7 + 1)))) else (none)) else (none)) else (none)) else (spec_l21Sort.l0 k x0 x1 x5 (wrap64 (x6 + 1)))
end
def spec_l21Sort.f (k : Nat) (l0 : List (List Int)) (a1 : Int) : Option ((List (List Int))) := spec_l21Sort.l0 k l0 a1 (([] : List (List Int))) 0
theorem spec_l21Sort.mono_l : ∀ k, (∀ y0 y1 y2 y3, LeO (spec_l21Sort.l0 k y0 y1 y2 y3) (spec_l21Sort.l0 (k + 1) y0 y1 y2 y3)) ∧ (∀ y0 y1 y2 y3 y4, LeO (spec_l21Sort.l1 k y0 y1 y2 y3 y4) (spec_l21Sort.l1 (k + 1) y0 y1 y2 y3 y4))
  | 0 => ⟨fun _ _ _ _ r h => by simp [spec_l21Sort.l0] at h, fun _ _ _ _ _ r h => by simp [spec_l21Sort.l1] at h⟩
  | k + 1 => by
    obtain ⟨ih0, ih1⟩ := spec_l21Sort.mono_l k
    refine ⟨?_, ?_⟩
    · intro y0 y1 y2 y3
      unfold spec_l21Sort.l0
      repeat' first
      | (with_reducible exact ih0 _ _ _ _)
      | (with_reducible exact ih1 _ _ _ _ _)
      | (with_reducible exact LeO.refl _)
      | (with_reducible exact LeO.none _)
      | (with_reducible refine LeO.ite ?_ ?_)
      | (with_reducible refine LeO.bind ?_ (fun _ => ?_))
      | exact ih0 _ _ _ _
      | exact ih1 _ _ _ _ _
      | exact LeO.none _
      | refine LeO.ite ?_ ?_
      | refine LeO.bind ?_ (fun _ => ?_)
    · intro y0 y1 y2 y3 y4
      unfold spec_l21Sort.l1
      repeat' first
      | (with_reducible exact ih0 _ _ _ _)
      | (with_reducible exact ih1 _ _ _ _ _)
      | (with_reducible exact LeO.refl _)
      | (with_reducible exact LeO.none _)
      | (with_reducible refine LeO.ite ?_ ?_)
      | (with_reducible refine LeO.bind ?_ (fun _ => ?_))
      | exact ih0 _ _ _ _
      | exact ih1 _ _ _ _ _
      | exact LeO.none _
      | refine LeO.ite ?_ ?_
      | refine LeO.bind ?_ (fun _ => ?_)
theorem spec_l21Sort.mono : ∀ a0 a1 k, LeO (spec_l21Sort.f k a0 a1) (spec_l21Sort.f (k + 1) a0 a1) := by
  intro a0 a1 k
  obtain ⟨ih0, ih1⟩ := spec_l21Sort.mono_l k
  unfold spec_l21Sort.f
  repeat' first
      | (with_reducible exact ih0 _ _ _ _)
      | (with_reducible exact ih1 _ _ _ _ _)
      | (with_reducible exact LeO.refl _)
      | (with_reducible exact LeO.none _)
      | (with_reducible refine LeO.ite ?_ ?_)
      | (with_reducible refine LeO.bind ?_ (fun _ => ?_))
      | exact ih0 _ _ _ _
      | exact ih1 _ _ _ _ _
      | exact LeO.none _
      | refine LeO.ite ?_ ?_
      | refine LeO.bind ?_ (fun _ => ?_)
set_option maxHeartbeats 8000000 in
set_option maxRecDepth 100000 in
theorem spec_l21Sort.calls (k : Nat) (P0_ : Nat → Prop) (A0 : Option Addr) (c0 : Nat) (l0 : List (List Int)) (a1 : Int) (r : List (List Int)) (w : World) (hs0 : Kd.V (Kd.slice 3 (Kd.int .i64)) 25 w w.heap.size (fun k_ => P0_ k_) (.slice A0 l0.length c0) l0) (h : spec_l21Sort.f k l0 a1 = some r) :
    Calls Try.prog 47 #[.slice A0 l0.length c0, .int .i64 a1] w fun e w' => ∃ v0_ : Value, e = .returned (v0_) ∧ Kd.N (Kd.slice 3 (Kd.int .i64)) 25 w' w.heap.size (fun k_ => (P0_ k_ ∨ w.heap.size ≤ k_)) v0_ r ∧ Below w.heap.size w w' := by
  have HO0 := Aside0.mk (show Kd.V (Kd.slice 3 (Kd.int .i64)) 25 w w.heap.size (fun k_ => (P0_ k_ ∨ w.heap.size ≤ k_)) (.slice A0 l0.length c0) l0 from Kd.V_mono hs0 (fun k_ hk => .inl hk))
  have HB := Aside0.mk (Below.refl w.heap.size w)
  have H : (spec_l21Sort.l0 k l0 a1 (([] : List (List Int))) 0) = some r := h
  clear h
  obtain ⟨y119, hy119⟩ : ∃ y_ : List (List Int), y_ = (([] : List (List Int))) := ⟨_, rfl⟩
  replace H : (spec_l21Sort.l0 k l0 a1 y119 0) = some r := by first | (rw [hy119]; with_reducible exact H) | (have H2_ := (Option.bind_some _ _).symm.trans H; rw [hy119]; with_reducible exact H2_) | (have H2_ := (Option.bind_some _ _).symm.trans H; with_reducible exact H2_) | with_reducible exact H | (rw [hy119]; exact H) | exact H
  have Ny119 := Aside0.mk hy119
  clear hy119
  have H' := Aside0.mk H
  clear H
  go_enter Try.func47, Try.ntmps47
  go_wp2_with (first | ((with_reducible refine gate_dst (N := 8) rfl ?_); refine Kd.N_lit (Kd.slice 3 (Kd.int .i64)) _ 25 ?hg (N' := 8) ?hd (xs := ([] : List (List Int))) (inner := []) (ok := (fun k_ => (P0_ k_ ∨ w.heap.size ≤ k_))) (okp := (fun k_ => (P0_ k_ ∨ w.heap.size ≤ k_))) ?hr ?hp (fun _ hk => hk) ((show ∀ k_, w.heap.size ≤ k_ → (fun k_ => (P0_ k_ ∨ w.heap.size ≤ k_)) k_ from fun k_ hk => (.inr (Nat.le_trans (below_size (by repeat (first | (with_reducible first | exact HB.out | apply below_alloc | apply pw_below_drewN | apply below_drew1) | exact HB.out))) hk))) _ (Nat.le_refl _)) (Below.refl _ _) (Nat.le_refl _) (by simp) ?_; (case hd => rfl); (case hg => rfl); (case hr => first | (go_simp; done) | (go_simp; rfl)); (case hp => exact (Reps.none _ _)); intro v120 w3 ho4 hb hg_ hnew_; clear hg_ hnew_; (first | rw [← Ny119.out] at ho4 | (simp only [Int.reduceToNat] at ho4; rw [← Ny119.out] at ho4)); have n0_ := Aside0.mk (Kd.V_elder' (by (with_reducible repeat (first | apply Kd.V_alloc | apply Kd.V_drewN | apply Kd.V_drew)); exact HO0.out) (Kd.N_base ho4) hb); have n1_ := Aside0.mk (Kd.N_lower ho4 (below_size (by repeat (first | (with_reducible first | exact HB.out | apply below_alloc | apply pw_below_drewN | apply below_drew1) | exact HB.out)))); have n2_ := Aside0.mk (below_step (by repeat (first | (with_reducible first | exact HB.out | apply below_alloc | apply pw_below_drewN | apply below_drew1) | exact HB.out)) hb); clear HO0; clear HB; have HO0 := n0_; have HO121 := n1_; have HB := n2_; clear n0_ n1_ n2_; clear hb ho4))
  go_loopg [5, 6] k (fun kq v5 v6 w' => ∃ (x5_1 : List (List Int)) (x6_1 : Int), v6 = .int .i64 x6_1 ∧ Aside0 (spec_l21Sort.l0 kq l0 a1 x5_1 x6_1 = some r) ∧ Aside0 (kq ≤ k) ∧ Aside0 (Kd.V (Kd.slice 3 (Kd.int .i64)) 25 w' w.heap.size (fun k_ => (P0_ k_ ∨ w.heap.size ≤ k_) ∧ some k_ ≠ (v5 : Value).ownBlock) (.slice A0 l0.length c0) l0) ∧ Aside0 (Kd.N (Kd.slice 3 (Kd.int .i64)) 25 w' w.heap.size (fun k_ => (P0_ k_ ∨ w.heap.size ≤ k_)) v5 x5_1) ∧ Aside0 (Below w.heap.size w w'))
  case atStart => exact ⟨(y119), (0), (by first | rfl | (simp; done) | (simp [*]; done)), H', ⟨Nat.le_refl _⟩, ⟨by (with_reducible repeat (first | apply Kd.V_alloc | apply Kd.V_drewN | apply Kd.V_drew)); exact HO0.out⟩, ⟨by (with_reducible repeat (first | apply Kd.N_alloc | apply Kd.N_drewN | apply Kd.N_drew)); exact HO121.out⟩, ⟨by repeat (first | (with_reducible first | exact HB.out | apply below_alloc | apply pw_below_drewN | apply below_drew1) | exact HB.out)⟩⟩
  case round =>
    clear H'
    try clear p2
    try clear c4
    obtain ⟨x5_1, x6_1, rfl, HA, HK1, HO_0, HO_5, HB⟩ := hrel
    cases gk with
    | zero => exact absurd HA.out (by simp [spec_l21Sort.l0])
    | succ k1 =>
      have H := HA.out
      clear HA
      simp only [spec_l21Sort.l0] at H
      by_cases c5 : x6_1 < 256
      · rw [if_pos c5] at H
        have c5b0 : decide (x6_1 < 256) = true := decide_eq_true c5
        clear c5
        have H' := Aside0.mk H
        clear H
        go_wp2
        go_loopg [5, 7] k1 (fun kq v5 v7 w' => ∃ (x5_2 : List (List Int)) (x7_2 : Int), v7 = .int .i64 x7_2 ∧ Aside0 (spec_l21Sort.l1 kq l0 a1 x5_2 x6_1 x7_2 = some r) ∧ Aside0 (kq ≤ k1) ∧ Aside0 (Kd.V (Kd.slice 3 (Kd.int .i64)) 25 w' w.heap.size (fun k_ => (P0_ k_ ∨ w.heap.size ≤ k_) ∧ some k_ ≠ (v5 : Value).ownBlock) (.slice A0 l0.length c0) l0) ∧ Aside0 (Kd.N (Kd.slice 3 (Kd.int .i64)) 25 w' w.heap.size (fun k_ => (P0_ k_ ∨ w.heap.size ≤ k_)) v5 x5_2) ∧ Aside0 (Below w.heap.size w w'))
        case atStart => exact ⟨(x5_1), (0), (by first | rfl | (simp; done) | (simp [*]; done)), H', ⟨Nat.le_refl _⟩, ⟨by (with_reducible repeat (first | apply Kd.V_alloc | apply Kd.V_drewN | apply Kd.V_drew)); exact HO_0.out⟩, ⟨by (with_reducible repeat (first | apply Kd.N_alloc | apply Kd.N_drewN | apply Kd.N_drew)); exact HO_5.out⟩, ⟨by repeat (first | (with_reducible first | exact HB.out | apply below_alloc | apply pw_below_drewN | apply below_drew1) | exact HB.out)⟩⟩
        case round =>
          clear H'
          try clear p2
          try clear c4
          try clear c5
          try clear c5b0
          try clear p2
          obtain ⟨x5_2, x7_2, rfl, HA, HK2, HO_0, HO_5, HB⟩ := hrel
          cases gk with
          | zero => exact absurd HA.out (by simp [spec_l21Sort.l1])
          | succ k2 =>
            have H := HA.out
            clear HA
            simp only [spec_l21Sort.l1] at H
            by_cases c6 : x7_2 < (l0.length : Int)
            · rw [if_pos c6] at H
              have c6b0 : decide (x7_2 < (l0.length : Int)) = true := decide_eq_true c6
              clear c6
              by_cases c7 : 0 ≤ x7_2
              · rw [if_pos c7] at H
                have c7b0 : decide (0 ≤ x7_2) = true := decide_eq_true c7
                clear c7
                by_cases c8 : 0 ≤ a1
                · rw [if_pos c8] at H
                  have c8b0 : decide (0 ≤ a1) = true := decide_eq_true c8
                  clear c8
                  by_cases c9 : a1 < ((rd_L2 l0 x7_2).length : Int)
                  · rw [if_pos c9] at H
                    have c9b0 : decide (a1 < ((rd_L2 l0 x7_2).length : Int)) = true := decide_eq_true c9
                    clear c9
                    by_cases c10 : (rd (rd_L2 l0 x7_2) a1) = x6_1
                    · rw [if_pos c10] at H
                      have c10b0 : ((rd (rd_L2 l0 x7_2) a1) == x6_1) = true := beq_iff_eq.mpr c10
                      have c10b1 : ((rd (rd_L2 l0 x7_2) a1) != x6_1) = false := bne_eq_false_iff_eq.mpr c10
                      clear c10
                      by_cases c11 : x5_2.length < 5864062014805
                      · rw [if_pos c11] at H
                        have LMc11 := Aside0.mk c11
                        clear c11
                        obtain ⟨y125, hy125⟩ : ∃ y_ : List (List Int), y_ = (x5_2 ++ [rd_L2 l0 x7_2]) := ⟨_, rfl⟩
                        replace H : (spec_l21Sort.l1 k2 l0 a1 y125 x6_1 (wrap64 (x7_2 + 1))) = some r := by first | (rw [hy125]; with_reducible exact H) | (have H2_ := (Option.bind_some _ _).symm.trans H; rw [hy125]; with_reducible exact H2_) | (have H2_ := (Option.bind_some _ _).symm.trans H; with_reducible exact H2_) | with_reducible exact H | (rw [hy125]; exact H) | exact H
                        have Ny125 := Aside0.mk hy125
                        clear hy125
                        have H' := Aside0.mk H
                        clear H
                        have p122 : 0 ≤ (x7_2 : Int) := of_decide_eq_true (by first | (with_reducible assumption) | assumption)
                        have q122 : x7_2 < (l0.length : Int) := of_decide_eq_true (by first | (with_reducible assumption) | assumption)
                        obtain ⟨ad122, A122_0, c122_0, e122, hx122_0, hl122_0, hi122_0⟩ := at_L2 (Kd.V_reads' HO_0.out).2.2 x7_2 p122 q122
                        cases e122
                        obtain ⟨ce122, hce122, hMe122, hcc122⟩ := Kd.V_get HO_0.out [] x7_2 p122 (by first | exact q122 | exact of_decide_eq_true (by first | (with_reducible assumption) | assumption) | (have e_ := (Kd.V_reads' HO_0.out).1; omega))
                        obtain ⟨ua122_0, uc122_0, rfl, ul122_0, ge122_0⟩ := Kd.FK_slice_open hMe122
                        have hv122_0 := hcc122 0 _ rfl
                        rw [Nat.add_zero, show ((Kd.slice 3 (Kd.int .i64))).sz = 1 from rfl, Nat.mul_one] at hv122_0
                        replace hv122_0 := Option.some.inj (hv122_0.symm.trans hx122_0)
                        injection hv122_0 with hva_ hvn_ hvc_
                        rw [hva_] at ge122_0
                        rw [hvc_] at ul122_0
                        have HL122_0 := Aside0.mk (show Kd.V (Kd.int .i64) 3 _ w.heap.size _ _ (rd_L2 l0 x7_2) from Kd.V_mk ul122_0 ge122_0)
                        clear hva_ hvn_ hvc_ ge122_0 ul122_0
                        clear hcc122 hce122
                        have HR122_0 := Aside0.mk hi122_0
                        have HC122_0 := Aside0.mk hl122_0
                        clear hi122_0 hl122_0
                        replace p122 := eq_true p122
                        replace q122 := eq_true q122
                        have p123 : 0 ≤ (a1 : Int) := of_decide_eq_true (by first | (with_reducible assumption) | assumption)
                        have q123 : a1 < ((rd_L2 l0 x7_2).length : Int) := of_decide_eq_true (by first | (with_reducible assumption) | assumption)
                        obtain ⟨ad123, e123, hx123_0⟩ := Kd.at_int (by repeat (first | (with_reducible exact HR122_0.out) | (with_reducible refine Kd.C_alloc ?_ _) | (with_reducible refine Kd.C_drewN ?_ _) | (with_reducible refine Kd.C_drew ?_) | exact HR122_0.out)) a1 p123 q123
                        cases e123
                        replace p123 := eq_true p123
                        replace q123 := eq_true q123
                        have p124 : 0 ≤ (x7_2 : Int) := of_decide_eq_true (by first | (with_reducible assumption) | assumption)
                        have q124 : x7_2 < (l0.length : Int) := of_decide_eq_true (by first | (with_reducible assumption) | assumption)
                        obtain ⟨ad124, A124_0, c124_0, e124, hx124_0, hl124_0, hi124_0⟩ := at_L2 (Kd.V_reads' HO_0.out).2.2 x7_2 p124 q124
                        obtain rfl : ad122 = ad124 := (by injection e124)
                        obtain ⟨ce124, hce124, hMe124, hcc124⟩ := Kd.V_get HO_0.out [] x7_2 p124 (by first | exact q124 | exact of_decide_eq_true (by first | (with_reducible assumption) | assumption) | (have e_ := (Kd.V_reads' HO_0.out).1; omega))
                        obtain ⟨ua124_0, uc124_0, rfl, ul124_0, ge124_0⟩ := Kd.FK_slice_open hMe124
                        have hv124_0 := hcc124 0 _ rfl
                        rw [Nat.add_zero, show ((Kd.slice 3 (Kd.int .i64))).sz = 1 from rfl, Nat.mul_one] at hv124_0
                        replace hv124_0 := Option.some.inj (hv124_0.symm.trans hx124_0)
                        injection hv124_0 with hva_ hvn_ hvc_
                        rw [hva_] at ge124_0
                        rw [hvc_] at ul124_0
                        have HL124_0 := Aside0.mk (show Kd.V (Kd.int .i64) 3 _ w.heap.size _ _ (rd_L2 l0 x7_2) from Kd.V_mk ul124_0 ge124_0)
                        clear hva_ hvn_ hvc_ ge124_0 ul124_0
                        clear hcc124 hce124
                        have HR124_0 := Aside0.mk hi124_0
                        have HC124_0 := Aside0.mk hl124_0
                        clear hi124_0 hl124_0
                        replace p124 := eq_true p124
                        replace q124 := eq_true q124
                        have ea_ := Option.some.inj (hx122_0.symm.trans hx124_0)
                        injection ea_ with ea_ en_ ec_
                        subst ea_
                        subst ec_
                        clear en_
                        go_wp2_with (first | ((with_reducible refine gate_builtin (b := .append) (xs := #[.tmp 28, .tmp 33]) rfl ?_); at_builtin; refine Kd.N_append (Kd.slice 3 (Kd.int .i64)) (w0 := w) w.heap.size rfl (.tmp 28) (.tmp 33) 24 25 (.slice none 0 0) 24 rfl Try.underlying24 info25 rfl (by decide) (by omega) u5 x5_2 (rd_L2 l0 x7_2) [.slice (some ad123) (rd_L2 l0 x7_2).length c122_0] (fun k_ => (P0_ k_ ∨ w.heap.size ≤ k_)) (fun k_ => ((fun k_ => (P0_ k_ ∨ w.heap.size ≤ k_))) k_ ∧ some k_ ≠ (u5 : Value).ownBlock) rfl rfl ?aP (fun _ hk => hk) ?aF ?aO ?aB ?aS ?aL ?_; (case aP => exact (Kd.FK_slice_mk (Kd.V_reads' (Kd.V_mono (ok' := (fun k_ => ((fun k_ => (P0_ k_ ∨ w.heap.size ≤ k_))) k_ ∧ some k_ ≠ (u5 : Value).ownBlock)) (HL124_0.out) (fun k_ hk => ⟨hk.1, hk.2⟩))).2.1 (Kd.V_F (Kd.V_mono (ok' := (fun k_ => ((fun k_ => (P0_ k_ ∨ w.heap.size ≤ k_))) k_ ∧ some k_ ≠ (u5 : Value).ownBlock)) (HL124_0.out) (fun k_ hk => ⟨hk.1, hk.2⟩))))); (case aB => exact (by repeat (first | (with_reducible first | exact HB.out | apply below_alloc | apply pw_below_drewN | apply below_drew1) | exact HB.out))); (case aF => exact (fun k_ hk => (.inr (Nat.le_trans (below_size (by repeat (first | (with_reducible first | exact HB.out | apply below_alloc | apply pw_below_drewN | apply below_drew1) | exact HB.out))) hk)))); (case aO => exact (by (with_reducible repeat (first | apply Kd.N_alloc | apply Kd.N_drewN | apply Kd.N_drew)); exact HO_5.out)); (case aS => exact (below_size (by repeat (first | (with_reducible first | exact HB.out | apply below_alloc | apply pw_below_drewN | apply below_drew1) | exact HB.out)))); (case aL => have := LMc11.out; omega); intro v126 w12 ho hb hg hat; rw [← Ny125.out] at ho; have n0_ := Aside0.mk (Kd.V_afterv (ok := (fun k_ => (P0_ k_ ∨ w.heap.size ≤ k_))) (by (with_reducible repeat (first | apply Kd.V_alloc | apply Kd.V_drewN | apply Kd.V_drew)); exact HO_0.out) hg hat); have n1_ := Aside0.mk (Kd.V_afterv (ok := (fun k_ => (P0_ k_ ∨ w.heap.size ≤ k_))) (by (with_reducible repeat (first | apply Kd.V_alloc | apply Kd.V_drewN | apply Kd.V_drew)); exact HL122_0.out) hg hat); have n2_ := Aside0.mk (Kd.V_afterv (ok := (fun k_ => (P0_ k_ ∨ w.heap.size ≤ k_))) (by (with_reducible repeat (first | apply Kd.V_alloc | apply Kd.V_drewN | apply Kd.V_drew)); exact HL124_0.out) hg hat); have n3_ := Aside0.mk (hb); have n4_ := Aside0.mk (ho); clear HO_0; clear HL122_0; clear HL124_0; clear HB; clear HO_5; have HO_0 := n0_; have HL122_0 := n1_; have HL124_0 := n2_; have HB := n3_; have HO127 := n4_; clear n0_ n1_ n2_ n3_ n4_; clear ho hb hg hat))
                        go_roundg k2
                        case measure => have := HK1.out; have := HK2.out; omega
                        case rel => exact ⟨(y125), (wrap64 (x7_2 + 1)), (by first | rfl | (simp; done) | (simp [*]; done)), H', ⟨by have := HK1.out; have := HK2.out; omega⟩, ⟨by (with_reducible repeat (first | apply Kd.V_alloc | apply Kd.V_drewN | apply Kd.V_drew)); exact HO_0.out⟩, ⟨by (with_reducible repeat (first | apply Kd.N_alloc | apply Kd.N_drewN | apply Kd.N_drew)); exact HO127.out⟩, ⟨by repeat (first | (with_reducible first | exact HB.out | apply below_alloc | apply pw_below_drewN | apply below_drew1) | exact HB.out)⟩⟩
                      · rw [if_neg c11] at H
                        exact absurd H (by simp)
                    · rw [if_neg c10] at H
                      have c10b0 : ((rd (rd_L2 l0 x7_2) a1) == x6_1) = false := beq_eq_false_iff_ne.mpr c10
                      have c10b1 : ((rd (rd_L2 l0 x7_2) a1) != x6_1) = true := bne_iff_ne.mpr c10
                      have H' := Aside0.mk H
                      clear H
                      have p122 : 0 ≤ (x7_2 : Int) := of_decide_eq_true (by first | (with_reducible assumption) | assumption)
                      have q122 : x7_2 < (l0.length : Int) := of_decide_eq_true (by first | (with_reducible assumption) | assumption)
                      obtain ⟨ad122, A122_0, c122_0, e122, hx122_0, hl122_0, hi122_0⟩ := at_L2 (Kd.V_reads' HO_0.out).2.2 x7_2 p122 q122
                      cases e122
                      obtain ⟨ce122, hce122, hMe122, hcc122⟩ := Kd.V_get HO_0.out [] x7_2 p122 (by first | exact q122 | exact of_decide_eq_true (by first | (with_reducible assumption) | assumption) | (have e_ := (Kd.V_reads' HO_0.out).1; omega))
                      obtain ⟨ua122_0, uc122_0, rfl, ul122_0, ge122_0⟩ := Kd.FK_slice_open hMe122
                      have hv122_0 := hcc122 0 _ rfl
                      rw [Nat.add_zero, show ((Kd.slice 3 (Kd.int .i64))).sz = 1 from rfl, Nat.mul_one] at hv122_0
                      replace hv122_0 := Option.some.inj (hv122_0.symm.trans hx122_0)
                      injection hv122_0 with hva_ hvn_ hvc_
                      rw [hva_] at ge122_0
                      rw [hvc_] at ul122_0
                      have HL122_0 := Aside0.mk (show Kd.V (Kd.int .i64) 3 _ w.heap.size _ _ (rd_L2 l0 x7_2) from Kd.V_mk ul122_0 ge122_0)
                      clear hva_ hvn_ hvc_ ge122_0 ul122_0
                      clear hcc122 hce122
                      have HR122_0 := Aside0.mk hi122_0
                      have HC122_0 := Aside0.mk hl122_0
                      clear hi122_0 hl122_0
                      replace p122 := eq_true p122
                      replace q122 := eq_true q122
                      have p123 : 0 ≤ (a1 : Int) := of_decide_eq_true (by first | (with_reducible assumption) | assumption)
                      have q123 : a1 < ((rd_L2 l0 x7_2).length : Int) := of_decide_eq_true (by first | (with_reducible assumption) | assumption)
                      obtain ⟨ad123, e123, hx123_0⟩ := Kd.at_int (by repeat (first | (with_reducible exact HR122_0.out) | (with_reducible refine Kd.C_alloc ?_ _) | (with_reducible refine Kd.C_drewN ?_ _) | (with_reducible refine Kd.C_drew ?_) | exact HR122_0.out)) a1 p123 q123
                      cases e123
                      replace p123 := eq_true p123
                      replace q123 := eq_true q123
                      go_wp2
                      go_roundg k2
                      case measure => have := HK1.out; have := HK2.out; omega
                      case rel => exact ⟨(x5_2), (wrap64 (x7_2 + 1)), (by first | rfl | (simp; done) | (simp [*]; done)), H', ⟨by have := HK1.out; have := HK2.out; omega⟩, ⟨by (with_reducible repeat (first | apply Kd.V_alloc | apply Kd.V_drewN | apply Kd.V_drew)); exact HO_0.out⟩, ⟨by (with_reducible repeat (first | apply Kd.N_alloc | apply Kd.N_drewN | apply Kd.N_drew)); exact HO_5.out⟩, ⟨by repeat (first | (with_reducible first | exact HB.out | apply below_alloc | apply pw_below_drewN | apply below_drew1) | exact HB.out)⟩⟩
                  · rw [if_neg c9] at H
                    exact absurd H (by simp)
                · rw [if_neg c8] at H
                  exact absurd H (by simp)
              · rw [if_neg c7] at H
                exact absurd H (by simp)
            · rw [if_neg c6] at H
              have c6b0 : decide (x7_2 < (l0.length : Int)) = false := decide_eq_false c6
              clear c6
              have H' := Aside0.mk H
              clear H
              go_wp2
              go_roundg k2
              case measure => have := HK1.out; have := HK2.out; omega
              case rel => exact ⟨(x5_2), (wrap64 (x6_1 + 1)), (by first | rfl | (simp; done) | (simp [*]; done)), H', ⟨by have := HK1.out; have := HK2.out; omega⟩, ⟨by (with_reducible repeat (first | apply Kd.V_alloc | apply Kd.V_drewN | apply Kd.V_drew)); exact HO_0.out⟩, ⟨by (with_reducible repeat (first | apply Kd.N_alloc | apply Kd.N_drewN | apply Kd.N_drew)); exact HO_5.out⟩, ⟨by repeat (first | (with_reducible first | exact HB.out | apply below_alloc | apply pw_below_drewN | apply below_drew1) | exact HB.out)⟩⟩
      · rw [if_neg c5] at H
        have c5b0 : decide (x6_1 < 256) = false := decide_eq_false c5
        clear c5
        obtain rfl := Option.some.inj H
        go_wp2
        go_ret
        exact ⟨_, by first | rfl | (simp [errW_none, errW_some] <;> rfl) | (simp [*, errW_none, errW_some] <;> rfl), by (with_reducible repeat (first | apply Kd.N_alloc | apply Kd.N_drewN | apply Kd.N_drew)); exact HO_5.out, by repeat (first | (with_reducible first | exact HB.out | apply below_alloc | apply pw_below_drewN | apply below_drew1) | exact HB.out)⟩
theorem spec_l21Sort.ev (box : List (List Int)) (hp : ∀ px ∈ box, isPx px = true) (hl : box.length ≤ 1048576) (j : Int) (h0 : 0 ≤ j) (h1 : j ≤ 2) : Ev (fun k => spec_l21Sort.f k box j) (sortM box j) := by
  unfold spec_l21Sort.f
  have hlen : ∀ n : Nat, (sortGo box j n).length ≤ box.length := by
    intro n
    induction box with
    | nil =>
      have : ∀ n, sortGo [] j n = [] := by
        intro n
        induction n with
        | zero => rfl
        | succ n ih => simp [sortGo, ih, sortV]
      rw [this]; simp
    | cons px t ih =>
      have := ih (fun q hq => hp q (List.mem_cons_of_mem _ hq)) (by simp at hl; omega)
      rw [sortGo_cons, List.length_cons]
      split <;> omega
  have outer : ∀ d v : Nat, 256 - v = d → v ≤ 256 → Ev (fun k => spec_l21Sort.l0 k box j (sortGo box j v) (v : Int)) (sortM box j) := by
    intro d
    induction d with
    | zero =>
      intro v hd hv
      obtain rfl : v = 256 := by omega
      refine Ev.step (fun _ => by rw [spec_l21Sort.l0]) ?_
      refine Ev.ng (by omega) ?_
      exact Ev.eq (Ev.now _) rfl
    | succ d ihd =>
      intro v hd hv
      refine Ev.step (fun _ => by rw [spec_l21Sort.l0]) (Ev.ip (by omega) ?_)
      have inner : ∀ e i : Nat, box.length - i = e → i ≤ box.length → Ev (fun k => spec_l21Sort.l1 k box j (sortGo box j v ++ sortV (box.take i) j v) (v : Int) (i : Int)) (sortM box j) := by
        intro e
        induction e with
        | zero =>
          intro i he hi
          obtain rfl : i = box.length := by omega
          refine Ev.step (fun _ => by rw [spec_l21Sort.l1]) (Ev.ng (by omega) ?_)
          rw [List.take_length, wrap_succ v (by omega)]
          exact ihd (v + 1) (by omega) (by omega)
        | succ e ih =>
          intro i he hi
          have hlt : i < box.length := by omega
          have hx := px_rd (hp _ (List.getElem_mem hlt)) j h0 (by omega)
          have er : rd_L2 box (i : Int) = box[i] := by simp [rd_L2, hlt]
          have hfl : (sortV (box.take i) j v).length ≤ i := Nat.le_trans (List.length_filter_le _ _) (by rw [List.length_take]; omega)
          have hgl := hlen v
          have es : sortV (box.take (i + 1)) j v = sortV (box.take i) j v ++ (if rd box[i] j = v then [box[i]] else []) := by
            unfold sortV
            rw [List.take_succ_eq_append_getElem hlt, List.filter_append]
            congr 1
            by_cases h : rd box[i] j = v
            · rw [if_pos h]; simp [h]
            · rw [if_neg h]; simp [h]
          refine Ev.step (fun _ => by rw [spec_l21Sort.l1]) (Ev.ip (by omega) (Ev.ip (by omega) (Ev.ip h0 ?_)))
          rw [er, wrap_succ i (by omega)]
          refine Ev.ip (by omega) ?_
          have hn := ih (i + 1) (by omega) (by omega)
          rw [es] at hn
          by_cases c : rd box[i] j = v
          · rw [if_pos c, ← List.append_assoc] at hn
            exact Ev.ip c (Ev.ip (by rw [List.length_append]; omega) hn)
          · rw [if_neg c, List.append_nil] at hn
            exact Ev.ng c hn
      have := inner _ 0 rfl (by omega)
      simpa [sortV] using this
  exact outer _ 0 rfl (by omega)
end Go.Proofs.Ytopebplddfhaeaa.G

namespace Go.Proofs.Ytopebplddfhaeaa.G
open Go.RowKit Go.Proofs.YtopebplddfhaeaaW.PrintWords Go.Proofs.YtopebplddfhaeaaW.PrintLast Go.Proofs.YtopebplddfhaeaaW.PrintMore
attribute [local go_sem] max2_int min2_int max_two min_two max_three min_three max_four min_four   -- for this text's walks alone
/-! ### spec_Palette: function 19 -/
--import Derived.BigRegion
--import Derived.Deep.CutBlock
--import Derived.Deep.CutRange
--import Derived.Deep.LoopGhost
--import Derived.Deep.DeepCutAuto
def spec_Palette.f (l0 : List (List Int)) (a1 : Int) : Option (List (List Int)) := if l0.length ≤ 1048576 then some (palM l0 a1) else none
abbrev dBox : Kd (List (List Int)) := Kd.slice 25 (Kd.slice 3 (Kd.int .i64))
theorem boxes_start {w W : World} {A0 : Option Addr} {c0 : Nat} {l0 : List (List Int)} (hr0 : Kd.C (Kd.slice 3 (Kd.int .i64)) w A0 l0.length l0) (hc0 : l0.length ≤ c0) (hB : Below w.heap.size w W) : Reps (Kd.FK dBox W (fun k => k < w.heap.size)) 1 [l0] [.slice A0 l0.length c0] := by
  have hF := Kd.F_step (Kd.C_F (Kd.heap_slice _ (Kd.heap_int _)) hr0) (fun k hk _ => hB.block k hk)
  exact (Reps.none _ _).snoc (Kd.FK_slice_mk hc0 hF) rfl
def PalRel (w : World) (a1 : Int) (l0 : List (List Int)) (v5 : Value) (kq : Nat) (v6 : Value) (w' : World) : Prop :=
  ∃ (bs : List (List (List Int))) (f : Nat), Aside0 (Kd.N dBox 24 w' w.heap.size (fun k => True ∧ some k ≠ (v5 : Value).ownBlock) v6 bs) ∧ Aside0 (BoxesOk bs) ∧ Aside0 (palGo a1 f bs = palGo a1 a1.toNat [l0]) ∧ Aside0 (Kd.S (Kd.slice 3 (Kd.int .i64)) 25 w' w.heap.size (fun _ => True) v5 []) ∧ Aside0 (Below w.heap.size w w') ∧ a1 ≤ bs.length + f ∧ 1 ≤ bs.length ∧ kq = a1.toNat - bs.length + 1
def PalEnd (w : World) (a1 : Int) (l0 : List (List Int)) (v5 : Value) (v6 : Value) (w' : World) : Prop :=
  ∃ bs : List (List (List Int)), Aside0 (Kd.N dBox 24 w' w.heap.size (fun k => True ∧ some k ≠ (v5 : Value).ownBlock) v6 bs) ∧ Aside0 (BoxesOk bs) ∧ Aside0 (palGo a1 a1.toNat [l0] = bs) ∧ Aside0 (Kd.S (Kd.slice 3 (Kd.int .i64)) 25 w' w.heap.size (fun _ => True) v5 []) ∧ Aside0 (Below w.heap.size w w')
theorem s_not {w W : World} {ok : Nat → Prop} {v : Value} {xs : List (List Int)} (h : Kd.S (Kd.slice 3 (Kd.int .i64)) 25 W w.heap.size ok v xs) : (∀ k, k < w.heap.size → some k ≠ v.ownBlock) ∧ (∀ k, W.heap.size ≤ k → some k ≠ v.ownBlock) :=
  ⟨fun k hk e => by have := Kd.R_base (Kd.S_R h) k e.symm; omega, fun k hk e => by have := Kd.S_lt h k e.symm; omega⟩
theorem palGo_stop (k : Int) (f : Nat) (bs : List (List (List Int))) (h : ¬ (bs.length : Int) < k ∨ partM bs = none) : palGo k f bs = bs := by
  cases f with
  | zero => rfl
  | succ f =>
    simp only [palGo]
    rcases h with h | h
    · rw [if_neg h]
    · split
      · rw [h]
      · rfl
set_option maxRecDepth 100000 in
set_option maxHeartbeats 8000000 in
theorem spec_Palette.callsS (A0 : Option Addr) (c0 : Nat) (l0 : List (List Int)) (a1 : Int) (r : List (List Int)) (w : World) (hr0 : Kd.C (Kd.slice 3 (Kd.int .i64)) w A0 l0.length l0) (hc0 : l0.length ≤ c0) (h : spec_Palette.f l0 a1 = some r) :
    Calls Try.prog 19 #[.slice A0 l0.length c0, .int .i64 a1] w fun e w' => ∃ v0_ : Value, e = .returned v0_ ∧ Kd.S (Kd.slice 3 (Kd.int .i64)) 25 w' w.heap.size (fun _ => True) v0_ r ∧ Below w.heap.size w w' := by
  unfold spec_Palette.f at h
  split at h
  · rename_i hl
    have HH := Aside0.mk (Option.some.inj h)
    have HR := Aside0.mk hr0
    have HC := Aside0.mk hc0
    clear h hr0 hc0
    go_enter Try.func19, Try.ntmps19
    go_upto_region 2 with (first | ((with_reducible refine gate_dst (N := 19) rfl ?_); refine Kd.S_lit (w0 := w) (Kd.slice 3 (Kd.int .i64)) w.heap.size 25 ?hg (N := 19) ?hd (xs := ([] : List (List Int))) (inner := []) (ok := fun _ => True) (okp := fun _ => True) ?hr ?hp (fun _ hk => hk) trivial (Below.refl _ _) (Nat.le_refl _) (by simp) ?_; (case hd => rfl); (case hg => rfl); (case hr => first | (go_simp; done) | (go_simp; rfl)); (case hp => exact (Reps.none _ _)); intro v5 w1 ho hb hg_ hnew_; have HO := Aside0.mk ho; have HB := Aside0.mk hb; clear ho hb hg_ hnew_))
    obtain ⟨pk, hpk⟩ : ∃ pk, pk = (decide (l0.length ≤ 4096) && l0.all isPx) := ⟨_, rfl⟩
    have hpe := spec_PixelsOk.ev l0
    rw [← hpk] at hpe
    obtain ⟨kp, hkp⟩ := hpe.rounds
    have HKP := Aside0.mk hkp
    have hok : palOk l0 a1 = (pk && decide (l0.length ≠ 0) && (decide (1 ≤ a1) && decide (a1 ≤ 256))) := by unfold palOk; rw [hpk]
    unfold palM at HH
    have hdone : palOk l0 a1 = false → r = [] := fun e => by have h1 := HH.out; rw [e, if_neg (by decide)] at h1; exact h1.symm
    have HDONE := Aside0.mk hdone
    have HOK := Aside0.mk hok
    have HPK := Aside0.mk hpk
    clear hpe hkp hpk hok hdone
    cases pk with
    | false =>
      go_wp2_with fail
      refine (spec_PixelsOk.calls kp A0 c0 l0 false _ (Kd.C_below HR.out HB.out) HC.out HKP.out).mono ?_
      rintro e_ w_ ⟨rfl, ⟨nd, rfl⟩⟩
      go_wp2
      go_ret
      have := HDONE.out (by rw [HOK.out]; rfl)
      subst this
      exact ⟨_, rfl, Kd.S_drewN HO.out _, pw_below_drewN HB.out _⟩
    | true =>
      by_cases hl0 : l0.length = 0
      · have z1 : ((l0.length : Int) == 0) = true := by rw [beq_iff_eq]; omega
        have z2 : (l0.length == 0) = true := by rw [beq_iff_eq]; omega
        have HL0 := Aside0.mk hl0
        clear hl0
        go_wp2_with fail
        refine (spec_PixelsOk.calls kp A0 c0 l0 true _ (Kd.C_below HR.out HB.out) HC.out HKP.out).mono ?_
        rintro e_ w_ ⟨rfl, ⟨nd, rfl⟩⟩
        go_wp2
        go_ret
        have := HDONE.out (by rw [HOK.out, HL0.out]; rfl)
        subst this
        exact ⟨_, rfl, Kd.S_drewN HO.out _, pw_below_drewN HB.out _⟩
      · have z1 : ((l0.length : Int) == 0) = false := by rw [beq_eq_false_iff_ne]; omega
        have z2 : (l0.length == 0) = false := by rw [beq_eq_false_iff_ne]; omega
        have hwi := spec_l01Between.val a1 1 256
        by_cases hn : 1 ≤ a1 ∧ a1 ≤ 256
        · have hko : palOk l0 a1 = true := by rw [HOK.out]; simp [hl0, hn.1, hn.2]
          obtain ⟨n0, n1⟩ := hn
          rw [show (decide (1 ≤ a1) && decide (a1 ≤ 256)) = true by simp [n0, n1]] at hwi
          have HW := Aside0.mk hwi
          have hh := HH.out
          rw [hko, if_pos rfl] at hh
          replace HH := Aside0.mk hh
          have hbo : BoxesOk [l0] := by
            have h1 := HPK.out.symm
            simp only [Bool.and_eq_true, decide_eq_true_eq, List.all_eq_true] at h1
            exact ⟨fun b hb px hx => by rw [List.mem_singleton.1 hb] at hx; exact h1.2 px hx, fun b hb => by rw [List.mem_singleton.1 hb]; omega, by simp⟩
          have HBO := Aside0.mk hbo
          clear hwi hh hko hbo HOK HPK HDONE
          go_wp2_with fail
          refine (spec_PixelsOk.calls kp A0 c0 l0 true _ (Kd.C_below HR.out HB.out) HC.out HKP.out).mono ?_
          rintro e_ w_ ⟨rfl, ⟨nd, rfl⟩⟩
          go_wp2_with fail
          refine (spec_l01Between.calls a1 1 256 true _ HW.out).mono ?_
          rintro e_ w_ ⟨rfl, ⟨nd2, rfl⟩⟩
          have HO2 := Aside0.mk (Kd.S_drewN HO.out (nd + nd2))
          have HB2 := Aside0.mk (pw_below_drewN HB.out (nd + nd2))
          clear HO HB
          (try rw [World.drewN_drewN])
          generalize w1.drewN (nd + nd2) = w2 at HO2 HB2 ⊢
          go_upto_block 0 with (first | ((with_reducible refine gate_dst (N := 35) rfl ?_); refine Kd.N_lit (w0 := w) dBox w.heap.size 24 ?hg (N' := 35) ?hd (xs := [l0]) (inner := [.slice A0 l0.length c0]) (ok := (fun k => True ∧ some k ≠ (v5 : Value).ownBlock)) (okp := fun k => k < w.heap.size) ?hr (boxes_start HR.out HC.out HB2.out) (fun k hk => ⟨trivial, (s_not HO2.out).1 k hk⟩) ⟨trivial, (s_not HO2.out).2 _ (Nat.le_refl _)⟩ HB2.out HB2.out.size (by simp) ?_; (case hd => rfl); (case hg => rfl); (case hr => first | (go_simp; done) | (go_simp; rfl)); intro v6 w3 ho hb hg_ hnew_; have HN := Aside0.mk ho; have HB3 := Aside0.mk hb; have HO3 := Aside0.mk (Kd.S_grown HO2.out hg_ (fun _ _ => by simp)); clear ho hb hg_ hnew_))
          go_cut [6] (fun v6 wx => PalEnd w a1 l0 v5 v6 wx)
          case first =>
            go_wp2_with fail
            go_loopg [6] (a1.toNat) (fun kq v6 w' => PalRel w a1 l0 v5 kq v6 w')
            case atStart => exact ⟨[l0], a1.toNat, HN, HBO, ⟨rfl⟩, HO3, HB3, by simp; omega, by simp, by simp; omega⟩
            case round =>
              clear HN HO3 HB3 HO2 HB2
              obtain ⟨bs, f, HN, HBO, HG, HO, HB, hfu, hb1, rfl⟩ := hrel
              obtain ⟨g, cap, e6, hgb, hgl, _⟩ := Kd.N_form HN.out (by omega)
              subst e6
              by_cases hlt : (bs.length : Int) < a1
              · have hwide := pickM_range bs HBO.out.1
                obtain ⟨pb, hpb⟩ : ∃ pb, pb = pickM bs := ⟨_, rfl⟩
                rw [← hpb] at hwide
                have HPB := Aside0.mk hpb
                clear hpb
                go_wp2_with fail
                go_loopg [7, 8, 9, 10] (bs.length + 1) (fun kq v7 v8 v9 v10 w' => ∃ (i : Nat) (b m q : Int), v7 = .int .i64 b ∧ v8 = .int .i64 m ∧ v9 = .int .i64 q ∧ v10 = .int .i64 i ∧ i ≤ bs.length ∧ Aside0 (pickGo (bs.drop i) i (b, m, q) = pb) ∧ Aside0 (Kd.N dBox 24 w' w.heap.size (fun k => True ∧ some k ≠ (v5 : Value).ownBlock) (.slice (some ⟨g, 0, none⟩) bs.length cap) bs) ∧ Aside0 (Kd.S (Kd.slice 3 (Kd.int .i64)) 25 w' w.heap.size (fun _ => True) v5 []) ∧ Aside0 (Below w.heap.size w w') ∧ kq = bs.length - i + 1)
                case atStart => exact ⟨0, -1, 0, 0, rfl, rfl, rfl, rfl, by omega, ⟨by rw [HPB.out]; rfl⟩, HN, HO, HB, rfl⟩
                case round =>
                  clear HN HO HB
                  obtain ⟨i, b, m, q, rfl, rfl, rfl, rfl, hi, HP, HN, HO, HB, rfl⟩ := hrel
                  by_cases hli : i < bs.length
                  · obtain ⟨c, hcl, hFK, hcc, hfr⟩ := Kd.N_elem HN.out [] (i : Int) (by omega) (by omega)
                    obtain ⟨Ab, cb, rfl, hcb, hF⟩ := Kd.FK_slice_open hFK
                    have hx := hcc 0 _ rfl
                    rw [show dBox.sz = 1 from rfl, Int.toNat_natCast, Nat.mul_one, Nat.add_zero] at hx
                    rw [Int.toNat_natCast] at hcb hF
                    obtain ⟨box, hbox⟩ : ∃ box, box = bs.getD i [] := ⟨_, rfl⟩
                    rw [← hbox] at hx hcb hF
                    have hbm : box ∈ bs := by rw [hbox, List.getD_eq_getElem?_getD, List.getElem?_eq_getElem hli]; exact List.getElem_mem hli
                    have hbl := HBO.out.2.1 box hbm
                    obtain ⟨kw, hkw⟩ := (spec_l21Wide.ev box (HBO.out.1 box hbm) (by omega)).rounds
                    have hdr : bs.drop i = box :: bs.drop (i + 1) := by rw [List.drop_eq_getElem_cons hli, hbox, List.getD_eq_getElem?_getD, List.getElem?_eq_getElem hli]; rfl
                    have hp := HP.out
                    rw [hdr] at hp
                    simp only [pickGo] at hp
                    obtain ⟨d1, hd1⟩ : ∃ d1, d1 = (wideM box).1 := ⟨_, rfl⟩
                    obtain ⟨d2, hd2⟩ : ∃ d2, d2 = (wideM box).2 := ⟨_, rfl⟩
                    rw [← hd1, ← hd2] at hp
                    have HKW := Aside0.mk (show spec_l21Wide.f kw box = some (d1, d2) by rw [hkw, hd1, hd2])
                    have HP2 := Aside0.mk hp
                    have HCB := Aside0.mk hcb
                    have HFC := Aside0.mk (Kd.F_now hF)
                    clear hcl hFK hcc hfr hcb hF hbox hbm hkw hdr hp hd1 hd2 hbl
                    by_cases hd : d1 > m
                    · have hdd : decide (m < d1) = true := decide_eq_true hd
                      have hp := HP2.out
                      rw [if_pos hd] at hp
                      have HP3 := Aside0.mk hp
                      clear hp hd
                      go_wp2_with fail
                      refine (spec_l21Wide.calls kw Ab cb box d1 d2 _ HFC.out HCB.out HKW.out).mono ?_
                      rintro e_ w_ ⟨rfl, ⟨nd3, rfl⟩⟩
                      go_wp2
                      go_roundg (bs.length - (i + 1) + 1)
                      case rel => exact ⟨i + 1, i, d1, d2, rfl, rfl, rfl, by go_num, by omega, ⟨by rw [← HP3.out]; congr 1⟩, ⟨Kd.N_drewN HN.out _⟩, ⟨Kd.S_drewN HO.out _⟩, ⟨pw_below_drewN HB.out _⟩, rfl⟩
                      case measure => simp; omega
                    · have hdd : decide (m < d1) = false := decide_eq_false (by omega)
                      have hp := HP2.out
                      rw [if_neg hd] at hp
                      have HP3 := Aside0.mk hp
                      clear hp hd
                      go_wp2_with fail
                      refine (spec_l21Wide.calls kw Ab cb box d1 d2 _ HFC.out HCB.out HKW.out).mono ?_
                      rintro e_ w_ ⟨rfl, ⟨nd3, rfl⟩⟩
                      go_wp2
                      go_roundg (bs.length - (i + 1) + 1)
                      case rel => exact ⟨i + 1, b, m, q, rfl, rfl, rfl, by go_num, by omega, ⟨by rw [← HP3.out]; congr 1⟩, ⟨Kd.N_drewN HN.out _⟩, ⟨Kd.S_drewN HO.out _⟩, ⟨pw_below_drewN HB.out _⟩, rfl⟩
                      case measure => simp; omega
                  · obtain rfl : i = bs.length := by omega
                    have hp := HP.out
                    rw [List.drop_length] at hp
                    simp only [pickGo] at hp
                    subst hp
                    simp only [] at hwide
                    by_cases hb0 : b < 0
                    · have hbd : decide (b < 0) = true := decide_eq_true hb0
                      have hpn : partM bs = none := by unfold partM; rw [← HPB.out, if_pos hb0]
                      have HPN := Aside0.mk hpn
                      clear hpn hb0
                      go_wp2_with fail
                      go_meet
                      case rel => exact ⟨bs, HN, HBO, ⟨by rw [← HG.out]; exact palGo_stop _ _ _ (.inr HPN.out)⟩, HO, HB⟩
                    · have hbd : decide (b < 0) = false := decide_eq_false hb0
                      obtain ⟨nb, rfl⟩ : ∃ nb : Nat, b = nb := ⟨b.toNat, by omega⟩
                      have hnb : nb < bs.length := by omega
                      have hw2 := pickM_wide bs HBO.out.1 (by rw [← HPB.out]; simp only []; omega)
                      rw [← HPB.out] at hw2
                      simp only [Int.toNat_natCast] at hw2
                      obtain ⟨c, hcl, hFK, hcc, hfr⟩ := Kd.N_elem HN.out [] (nb : Int) (by omega) (by omega)
                      obtain ⟨Ab, cb, rfl, hcb, hF⟩ := Kd.FK_slice_open hFK
                      have hx := hcc 0 _ rfl
                      have hfz := hfr 0
                      rw [show dBox.sz = 1 from rfl, Int.toNat_natCast, Nat.mul_one, Nat.add_zero] at hx hfz
                      rw [Int.toNat_natCast] at hcb hF
                      obtain ⟨box, hbox⟩ : ∃ box, box = bs.getD nb [] := ⟨_, rfl⟩
                      have HBX := Aside0.mk hbox
                      rw [← hbox] at hx hcb hF hw2
                      have hbm : box ∈ bs := by rw [hbox, List.getD_eq_getElem?_getD, List.getElem?_eq_getElem hnb]; exact List.getElem_mem hnb
                      have hbl := HBO.out.2.1 box hbm
                      obtain ⟨ks, hks⟩ := (spec_l21Sort.ev box (HBO.out.1 box hbm) (by omega) q (by omega) (by omega)).rounds
                      have hsl := sortM_length box (HBO.out.1 box hbm) q (by omega) (by omega)
                      obtain ⟨s, hs⟩ : ∃ s, s = sortM box q := ⟨_, rfl⟩
                      rw [← hs] at hks hsl
                      have HSS := Aside0.mk hs
                      have HKS := Aside0.mk hks
                      have HV := Aside0.mk (show Kd.V (Kd.slice 3 (Kd.int .i64)) 25 wr wr.heap.size (fun k => k ≠ g ∧ some k ≠ (v5 : Value).ownBlock) (.slice Ab box.length cb) box from Kd.V_mk hcb (Kd.F_mono hF (fun k hk => ⟨hk.2, hk.1.2⟩)))
                      have hs2 : 2 ≤ s.length ∧ s.length ≤ 4096 := by omega
                      have hgw : g < wr.heap.size := Kd.N_lt HN.out g rfl
                      have HV5 := Aside0.mk (s_not HO.out).2
                      clear hcl hFK hcc hfr hcb hF hbox hbm hks hs hbl hsl hw2
                      go_wp2_with fail
                      refine (spec_l21Sort.calls ks (fun k => k ≠ g ∧ some k ≠ (v5 : Value).ownBlock) Ab cb box q s _ HV.out HKS.out).mono ?_
                      rintro e_ w4 ⟨v13, rfl, hs4, hb4⟩
                      obtain ⟨As, cs, es⟩ := Kd.N_slice hs4
                      subst es
                      have HS4 := Aside0.mk hs4
                      have HN4 := Aside0.mk (Kd.N_below HN.out hb4)
                      have HO4 := Aside0.mk (Kd.S_below HO.out hb4)
                      have HB4 := Aside0.mk (Below.trans HB.out (hb4.mono HB.out.size))
                      have hxc := hb4.cell (World.block_lt_of_cell? wr _ hx)
                      have hx4 := hxc.trans hx
                      have hfz4 := (hb4.frozen (World.block_lt_of_cell? wr _ hx)).trans hfz
                      clear hs4 hb4 hx hfz hxc HN HO HB
                      have hcs := (Kd.N_reads' HS4.out).2.1
                      have hne : cs ≠ s.length / 2 := by omega
                      have hh1 : s.length / 2 ≤ cs := by omega
                      have hh2 : s.length / 2 ≤ s.length := by omega
                      obtain ⟨cells2, hblk2⟩ := Kd.N_typed HN4.out g rfl
                      have HBK := Aside0.mk hblk2
                      have HF4 := Aside0.mk (Kd.F_mono (ok' := (fun k => k ≠ g ∧ some k ≠ (v5 : Value).ownBlock)) (Kd.N_F HS4.out) (fun k hk => by rcases hk with h | h; exact h; exact ⟨by omega, HV5.out k h⟩))
                      have hsg : Aside0 (Kd.N dBox 24 (w4.setCell ⟨g, nb, none⟩ (.slice As (s.length / 2) cs)) w.heap.size (fun k => True ∧ some k ≠ (v5 : Value).ownBlock) (.slice (some ⟨g, 0, none⟩) bs.length cap) (bs.set nb (s.take (s.length / 2))) ∧ w4.grownBy (w4.setCell ⟨g, nb, none⟩ (.slice As (s.length / 2) cs)) (some g)) := by
                        obtain ⟨c, hcl, _, hcc, _⟩ := Kd.N_elem HN4.out [] (nb : Int) (by omega) (by omega)
                        obtain ⟨u, rfl⟩ := List.length_eq_one_iff.1 hcl
                        have hft := Kd.FK_slice_mk (e := 25) (c := cs) (by rw [List.length_take]; omega) (Kd.F_take HF4.out hh2)
                        have hl3 : (s.take (s.length / 2)).length = s.length / 2 := by rw [List.length_take]; omega
                        rw [hl3] at hft
                        have := Kd.N_seg HN4.out (nb : Int) (by omega) (by omega) (seg := [.slice As (s.length / 2) cs]) (j := 0) hcl hcc (by show 0 + 1 ≤ 1; omega) (x' := s.take (s.length / 2)) (okp := (fun k => k ≠ g ∧ some k ≠ (v5 : Value).ownBlock)) (by simpa using hft) (fun k hk => ⟨⟨trivial, hk.2⟩, hk.1⟩)
                        rw [show dBox.sz = 1 from rfl, Int.toNat_natCast, Nat.mul_one, Nat.add_zero] at this
                        exact ⟨this⟩
                      clear hblk2
                      go_upto_region 20 with (fail)
                      have HO5 := Aside0.mk (Kd.S_mono (ok' := fun k => k ≠ g) (Kd.S_far (p := ⟨g, nb, none⟩) (Kd.S_types HO4.out HBK.out (by decide)) (fun k hk => hk.2) (.slice As (s.length / 2) cs)) (fun k hk => hk.2))
                      have HN5 := Aside0.mk hsg.out.1
                      have HF5 := Aside0.mk (Kd.F_grown HF4.out hsg.out.2 (fun k hk => by simpa using hk.1))
                      have HB5 := Aside0.mk (below_set HB4.out hgb (j := nb) (v := .slice As (s.length / 2) cs))
                      generalize w4.setCell ⟨g, nb, none⟩ (.slice As (s.length / 2) cs) = w5 at HO5 HN5 HF5 HB5 ⊢
                      clear hsg HF4 HO4 HN4 HB4 HS4 HBK hx4 hfz4
                      have hfk : Kd.FK dBox w5 (fun k => k ≠ g ∧ some k ≠ (v5 : Value).ownBlock) (s.drop (s.length / 2)) [.slice (As.map (·.add (s.length / 2))) (s.length - s.length / 2) (cs - s.length / 2)] := by
                        have h1 := Kd.F_cut HF5.out hh2 hcs
                        rw [if_neg hne, show (Kd.slice 3 (Kd.int .i64)).sz = 1 from rfl, Nat.mul_one] at h1
                        have h2 := Kd.FK_slice_mk (e := 25) (c := cs - s.length / 2) (by rw [List.length_drop]; omega) h1
                        rw [List.length_drop] at h2
                        exact h2
                      have HFK := Aside0.mk hfk
                      have HV6 := Aside0.mk (s_not HO5.out).2
                      clear hfk
                      go_wp2_with (first | ((with_reducible refine gate_builtin (b := .append) (xs := #[.tmp 76, .tmp 82]) rfl ?_); at_builtin; go_loud (refine Kd.N_append dBox (w0 := w) w.heap.size rfl (.tmp 76) (.tmp 82) 55 24 (.slice none 0 0) 24 rfl Try.underlying55 info24 rfl (by decide) (by omega) (.slice (some ⟨g, 0, none⟩) bs.length cap) (bs.set nb (s.take (s.length / 2))) (s.drop (s.length / 2)) [.slice (As.map (·.add (s.length / 2))) (s.length - s.length / 2) (cs - s.length / 2)] (fun k => True ∧ some k ≠ (v5 : Value).ownBlock) (fun k => k ≠ g ∧ some k ≠ (v5 : Value).ownBlock) rfl rfl HFK.out (fun k hk => ⟨⟨trivial, hk.2⟩, by simpa [Value.ownBlock] using hk.1⟩) (fun k hk => ⟨trivial, HV6.out k hk⟩) HN5.out HB5.out HB5.out.size (by rw [List.length_set]; omega) ?_; intro v83 w6 ho hb hg hat); have HN6 := Aside0.mk ho; have HB6 := Aside0.mk hb; have HO6 := Aside0.mk (Kd.S_mono (ok' := fun _ => True) (Kd.S_grown HO5.out hg (fun k hk => by simpa [Value.ownBlock] using hk)) (fun _ _ => trivial)); clear ho hb hg hat))
                      go_roundg (a1.toNat - (bs.length + 1) + 1)
                      case rel =>
                        obtain ⟨f', rfl⟩ : ∃ f', f = f' + 1 := ⟨f - 1, by omega⟩
                        have hpm : partM bs = some (bs.set nb (s.take (s.length / 2)) ++ [s.drop (s.length / 2)]) := by
                          unfold partM
                          rw [← HPB.out]
                          simp only [Int.toNat_natCast]
                          rw [if_neg (by omega), ← HBX.out, ← HSS.out]
                        have hpo := partM_ok HBO.out (by omega) hpm
                        refine ⟨_, f', HN6, ⟨hpo.1⟩, ⟨?_⟩, HO6, HB6, by rw [hpo.2]; omega, by rw [hpo.2]; omega, by rw [hpo.2]⟩
                        rw [← HG.out]
                        simp only [palGo]
                        rw [if_pos hlt, hpm]
                      case measure => simp; omega
              · go_wp2_with fail
                go_meet
                case rel => exact ⟨bs, HN, HBO, ⟨by rw [← HG.out]; exact palGo_stop _ _ _ (.inl (by omega))⟩, HO, HB⟩
          case rest =>
            clear HN HO3 HB3 HO2 HB2
            obtain ⟨bs, HN, HBO, HG, HO, HB⟩ := hcut
            have hrl := HH.out
            rw [HG.out] at hrl
            have HRR := Aside0.mk hrl
            obtain ⟨Ab6, cb6, e6⟩ := Kd.N_slice HN.out
            subst e6
            clear hrl
            go_wp2_with fail
            go_loopg [5, 14] (bs.length + 1) (fun kq v5 v14 w' => ∃ i : Nat, v14 = .int .i64 i ∧ i ≤ bs.length ∧ kq = bs.length - i + 1 ∧ Aside0 (Kd.S (Kd.slice 3 (Kd.int .i64)) 25 w' w.heap.size (fun _ => True) v5 ((bs.take i).map meanM)) ∧ Aside0 (Kd.N dBox 24 w' w.heap.size (fun k => True ∧ some k ≠ (v5 : Value).ownBlock) (.slice Ab6 bs.length cb6) bs) ∧ Aside0 (Below w.heap.size w w'))
            case atStart => exact ⟨0, rfl, by omega, rfl, ⟨by simpa using HO.out⟩, HN, HB⟩
            case round =>
              clear HN HO HB
              obtain ⟨i, rfl, hi, rfl, HO, HN, HB⟩ := hrel
              by_cases hli : i < bs.length
              · obtain ⟨g, cap, e6, hgb, hgl, _⟩ := Kd.N_form HN.out (by omega)
                injection e6 with e6 _ e7
                subst e6
                clear e7
                obtain ⟨box, hbox⟩ : ∃ box, box = bs.getD i [] := ⟨_, rfl⟩
                have hbm : box ∈ bs := by rw [hbox, List.getD_eq_getElem?_getD, List.getElem?_eq_getElem hli]; exact List.getElem_mem hli
                have hbl := HBO.out.2.1 box hbm
                have hb256 := HBO.out.2.2
                have HPX := Aside0.mk (HBO.out.1 box hbm)
                have HTK := Aside0.mk (show (bs.take (i + 1)).map meanM = (bs.take i).map meanM ++ [meanM box] by rw [List.take_succ_eq_append_getElem hli, List.map_append, hbox, List.getD_eq_getElem?_getD, List.getElem?_eq_getElem hli]; rfl)
                have HBX := Aside0.mk hbox
                obtain ⟨Nb, hNb⟩ : ∃ Nb, Nb = wr.heap.size := ⟨_, rfl⟩
                have HSb := Aside0.mk (show Kd.S (Kd.slice 3 (Kd.int .i64)) 25 wr w.heap.size (fun k => k < Nb) u5 ((bs.take i).map meanM) from Kd.S_mono (Kd.S_bound HO.out) (fun k hk => by rw [hNb]; exact hk.2.2.1))
                have HNb := Aside0.mk (show Nb ≤ wr.heap.size by omega)
                have HNw := Aside0.mk (Kd.N_mono (ok' := fun k => (True ∧ some k ≠ (u5 : Value).ownBlock) ∧ k < Nb) (Kd.N_bound HN.out) (fun k hk => ⟨hk.1, by rw [hNb]; exact hk.2⟩))
                clear hbox hbm HO hNb
                go_wp2_with (first | ((with_reducible refine gate_dst (N := 90) rfl ?_); refine Kd.R_lit (w0 := w) (Kd.int .i64) w.heap.size 3 ?hg (N := 90) ?hd (xs := ([] : List Int)) (inner := []) (ok := fun k => Nb ≤ k) (okp := fun _ => False) ?hr ?hp (fun _ hk => hk.elim) HNb.out HB.out HB.out.size (by simp) ?_; (case hd => rfl); (case hg => rfl); (case hr => first | (go_simp; done) | (go_simp; rfl)); (case hp => exact (Reps.none _ _)); intro v15 w1 ho hb hg_ hnew_; have HP1 := Aside0.mk ho; have HB1 := Aside0.mk hb; have HS1 := Aside0.mk (Kd.S_grown HSb.out hg_ (fun _ _ => by simp)); have HN1 := Aside0.mk (Kd.N_grown HNw.out hg_ (fun _ _ => by simp)); have HNb1 := Aside0.mk (Nat.le_trans HNb.out hg_.size); clear ho hb hg_ hnew_))
                clear HB HSb HN HNb HNw
                go_loopg [15, 16] (4) (fun kq v15 v16 w' => ∃ j : Nat, v16 = .int .i64 j ∧ j ≤ 3 ∧ kq = 3 - j + 1 ∧ Aside0 (Kd.R (Kd.int .i64) 3 w' w.heap.size (fun k => Nb ≤ k) v15 ((meanM box).take j)) ∧ Aside0 (Kd.S (Kd.slice 3 (Kd.int .i64)) 25 w' w.heap.size (fun k => k < Nb) u5 ((bs.take i).map meanM)) ∧ Aside0 (Kd.N dBox 24 w' w.heap.size (fun k => (True ∧ some k ≠ (u5 : Value).ownBlock) ∧ k < Nb) (.slice (some ⟨g, 0, none⟩) bs.length cb6) bs) ∧ Aside0 (Below w.heap.size w w') ∧ Aside0 (Nb ≤ w'.heap.size))
                case atStart => exact ⟨0, rfl, by omega, rfl, HP1, HS1, HN1, HB1, HNb1⟩
                case round =>
                  clear HP1 HS1 HN1 HB1 HNb1
                  obtain ⟨j, rfl, hj, rfl, HP, HS, HN, HB, HNb⟩ := hrel
                  by_cases hlj : j < 3
                  · have hsum := sumJ_in j (by omega) (by omega) box HPX.out
                    go_wp2_with fail
                    go_loopg [17, 18] (box.length + 1) (fun kq v17 v18 w' => ∃ n : Nat, v18 = .int .i64 n ∧ n ≤ box.length ∧ v17 = .int .i64 (sumJ j (box.take n)) ∧ kq = box.length - n + 1 ∧ Aside0 (Kd.R (Kd.int .i64) 3 w' w.heap.size (fun k => Nb ≤ k) u15 ((meanM box).take j)) ∧ Aside0 (Kd.S (Kd.slice 3 (Kd.int .i64)) 25 w' w.heap.size (fun k => k < Nb) u5 ((bs.take i).map meanM)) ∧ Aside0 (Kd.N dBox 24 w' w.heap.size (fun k => (True ∧ some k ≠ (u5 : Value).ownBlock) ∧ k < Nb) (.slice (some ⟨g, 0, none⟩) bs.length cb6) bs) ∧ Aside0 (Below w.heap.size w w') ∧ Aside0 (Nb ≤ w'.heap.size))
                    case atStart => exact ⟨0, rfl, by omega, rfl, rfl, HP, HS, HN, HB, HNb⟩
                    case round =>
                      clear HP HS HN HB HNb
                      obtain ⟨n, rfl, hn, rfl, rfl, HP, HS, HN, HB, HNb⟩ := hrel
                      obtain ⟨c, hcl, hFK, hcc, hfr⟩ := Kd.N_elem HN.out [] (i : Int) (by omega) (by omega)
                      obtain ⟨Ab, cb, rfl, hcb, hF⟩ := Kd.FK_slice_open hFK
                      have hx := hcc 0 _ rfl
                      rw [show dBox.sz = 1 from rfl, Int.toNat_natCast, Nat.mul_one, Nat.add_zero] at hx
                      rw [Int.toNat_natCast] at hcb hF
                      rw [← HBX.out] at hx hcb hF
                      clear hcl hFK hcc hfr hcb
                      by_cases hln : n < box.length
                      · obtain ⟨ad, A1, c1, e1, hy, hl1, hi1⟩ := at_L2 (Kd.F_now hF) (n : Int) (by omega) (by omega)
                        cases e1
                        rw [Int.toNat_natCast] at hy
                        have hgl : rd_L2 box n = box[n] := by simp [rd_L2, hln]
                        rw [hgl] at hy hl1 hi1
                        have hpx := px_rd (HPX.out _ (List.getElem_mem hln)) j (by omega) (by omega)
                        obtain ⟨ap, e2, hz⟩ := Kd.at_int hi1 (j : Int) (by omega) (by omega)
                        cases e2
                        rw [Int.toNat_natCast] at hz
                        have hst := sumJ_take j box n hln
                        have htk := sumJ_in j (by omega) (by omega) (box.take n) (fun q hq => HPX.out q (List.mem_of_mem_take hq))
                        have htl : (box.take n).length ≤ n := by rw [List.length_take]; omega
                        obtain ⟨sm, hsm⟩ : ∃ sm, sm = sumJ j (box.take n) := ⟨_, rfl⟩
                        obtain ⟨pv, hpv⟩ : ∃ pv, pv = rd box[n] j := ⟨_, rfl⟩
                        rw [← hsm, ← hpv] at hst
                        rw [← hsm] at htk ⊢
                        rw [← hpv] at hz hpx
                        have hw1 : wrap64 (sm + pv) = sm + pv := wrap_in _ (by omega) (by omega)
                        have hpl := hpx.2.2
                        rw [hpl] at hy
                        have HST := Aside0.mk hst
                        have h3 : (3 : Nat) = 3 := rfl
                        clear hgl hl1 hi1 hst hsm hpv hF hpx h3 htk htl hpl
                        go_wp2
                        go_roundg (box.length - (n + 1) + 1)
                        case rel => exact ⟨n + 1, by go_num, by omega, by rw [HST.out, hw1], rfl, HP, HS, HN, HB, HNb⟩
                        case measure => simp; omega
                      · obtain rfl : n = box.length := by omega
                        rw [List.take_length]
                        have HRV := Aside0.mk (spec_l05Round.val (sumJ j box) box.length hsum.1 (by omega) (by omega) (by omega))
                        obtain ⟨rv, hrv⟩ : ∃ rv, rv = rndM (sumJ j box) box.length := ⟨_, rfl⟩
                        rw [← hrv] at HRV
                        have HMT := Aside0.mk (meanM_take box j hlj)
                        rw [← hrv] at HMT
                        have hml : ((meanM box).take j).length ≤ 3 := by rw [List.length_take]; omega
                        clear hrv hF
                        go_wp2_with fail
                        refine (spec_l05Round.calls (sumJ j box) box.length rv _ HRV.out).mono ?_
                        rintro e_ w_ ⟨rfl, ⟨nd5, rfl⟩⟩
                        have HP5 := Aside0.mk (Kd.R_drewN HP.out nd5)
                        have HS5 := Aside0.mk (Kd.S_drewN HS.out nd5)
                        have HN5 := Aside0.mk (Kd.N_drewN HN.out nd5)
                        have HB5 := Aside0.mk (pw_below_drewN HB.out nd5)
                        have HNb5 : Aside0 (Nb ≤ (wr.drewN nd5).heap.size) := ⟨HNb.out⟩
                        have hnn := HNb5.out
                        generalize wr.drewN nd5 = w5 at HP5 HS5 HN5 HB5 HNb5 hnn ⊢
                        clear HP HS HN HB HNb
                        go_wp2_with (first | ((with_reducible refine gate_builtin (b := .append) (xs := #[.tmp 116, .tmp 124]) rfl ?_); at_builtin; go_loud (refine Kd.R_append (Kd.int .i64) (w0 := w) w.heap.size rfl (.tmp 116) (.tmp 124) 25 3 (.int .i64 0) 8 rfl Try.underlying25 info3 rfl (by decide) (by omega) _ ((meanM box).take j) rv [.int .i64 rv] (fun k => Nb ≤ k) (fun _ => False) rfl rfl rfl (fun _ hk => hk.elim) (fun k hk => by omega) HP5.out HB5.out HB5.out.size (by omega) ?_; intro v125 w6 ho hb hg hat); have HP6 := Aside0.mk ho; have HB6 := Aside0.mk hb; have HG6 := Aside0.mk hg; clear ho hb hg hat))
                        have HPo := Aside0.mk (show ∀ k, Value.ownBlock u15 = some k → Nb ≤ k from HP5.out.1)
                        go_roundg (3 - (j + 1) + 1)
                        case rel =>
                          refine ⟨j + 1, by go_num, by omega, rfl, ⟨by rw [HMT.out]; exact HP6.out⟩, ⟨Kd.S_grown HS5.out HG6.out (fun k hk e => by have := HPo.out k e.symm; omega)⟩, ⟨Kd.N_grown HN5.out HG6.out (fun k hk e => by have := HPo.out k e.symm; have := hk.2; omega)⟩, HB6, ⟨Nat.le_trans HNb5.out HG6.out.size⟩⟩
                        case measure => simp; omega
                  · obtain rfl : j = 3 := by omega
                    have HP3 := Aside0.mk (show Kd.R (Kd.int .i64) 3 wr w.heap.size (fun k => Nb ≤ k) u15 (meanM box) from HP.out)
                    obtain ⟨A15, c15, e15⟩ := Kd.R_slice HP3.out
                    have hm3 : (meanM box).length = 3 := rfl
                    rw [hm3] at e15
                    subst e15
                    clear hm3
                    have hmo := Kd.M_row HP3.out
                    have HMO := Aside0.mk hmo
                    clear hmo HP
                    go_wp2_with (first | ((with_reducible refine gate_builtin (b := .append) (xs := #[.tmp 126, .tmp 128]) rfl ?_); at_builtin; go_loud (refine Kd.S_append (Kd.slice 3 (Kd.int .i64)) (w0 := w) w.heap.size rfl (.tmp 126) (.tmp 128) 24 25 (.slice none 0 0) 24 rfl Try.underlying24 info25 rfl (by decide) (by omega) u5 ((bs.take i).map meanM) (meanM box) [.slice A15 3 c15] (fun _ => True) (fun k => Nb ≤ k) rfl rfl HMO.out (fun k hk => ⟨trivial, fun e => by have := (Kd.S_R HS.out).1 k e.symm; omega⟩) (fun _ _ => trivial) (Kd.S_mono HS.out (fun k hk => ⟨trivial, by omega⟩)) HB.out HB.out.size (by rw [List.length_map, List.length_take]; have := HBO.out.2.2; omega) ?_; intro v129 w6 ho hb hg hat); have HO6 := Aside0.mk ho; have HB6 := Aside0.mk hb; have HG6 := Aside0.mk (Kd.N_after (Kd.N_mono (ok' := (fun k => True ∧ some k ≠ (u5 : Value).ownBlock)) HN.out (fun k hk => hk.1)) hg hat); clear ho hb hg hat))
                    go_roundg (bs.length - (i + 1) + 1)
                    case rel =>
                      refine ⟨i + 1, by go_num, by omega, rfl, ⟨by rw [HTK.out]; exact HO6.out⟩, HG6, HB6⟩
                    case measure => simp; omega
              · obtain rfl : i = bs.length := by omega
                go_wp2
                go_ret
                have := HRR.out
                rw [← this]
                exact ⟨_, rfl, by have h1 := HO.out; rwa [List.take_length] at h1, HB.out⟩
        · have hf : (decide (1 ≤ a1) && decide (a1 ≤ 256)) = false := by
            rw [Bool.eq_false_iff]; intro h; simp only [Bool.and_eq_true, decide_eq_true_eq] at h; exact hn h
          rw [hf] at hwi
          have HW := Aside0.mk hwi
          have HF := Aside0.mk hf
          clear hwi hf hn
          go_wp2_with fail
          refine (spec_PixelsOk.calls kp A0 c0 l0 true _ (Kd.C_below HR.out HB.out) HC.out HKP.out).mono ?_
          rintro e_ w_ ⟨rfl, ⟨nd, rfl⟩⟩
          go_wp2_with fail
          refine (spec_l01Between.calls a1 1 256 false _ HW.out).mono ?_
          rintro e_ w_ ⟨rfl, ⟨nd2, rfl⟩⟩
          go_wp2
          go_ret
          have := HDONE.out (by rw [HOK.out, HF.out, Bool.and_false])
          subst this
          exact ⟨_, rfl, by repeat (first | exact HO.out | refine Kd.S_drewN ?_ _), by repeat (first | exact HB.out | apply pw_below_drewN)⟩
  · cases h
theorem spec_Palette.calls (A0 : Option Addr) (c0 : Nat) (l0 : List (List Int)) (a1 : Int) (r : List (List Int)) (w : World) (hr0 : Kd.C (Kd.slice 3 (Kd.int .i64)) w A0 l0.length l0) (hc0 : l0.length ≤ c0) (h : spec_Palette.f l0 a1 = some r) :
    Calls Try.prog 19 #[.slice A0 l0.length c0, .int .i64 a1] w fun e w' => ∃ v0_ : Value, e = .returned v0_ ∧ Kd.R (Kd.slice 3 (Kd.int .i64)) 25 w' w.heap.size (fun _ => True) v0_ r ∧ Below w.heap.size w w' :=
  (spec_Palette.callsS A0 c0 l0 a1 r w hr0 hc0 h).mono fun _ _ ⟨v, he, hs, hb⟩ => ⟨v, he, (Kd.S_R hs), hb⟩
end Go.Proofs.Ytopebplddfhaeaa.G

namespace Go.Proofs.Ytopebplddfhaeaa.G
open Go.RowKit Go.Proofs.YtopebplddfhaeaaW.PrintWords Go.Proofs.YtopebplddfhaeaaW.PrintLast Go.Proofs.YtopebplddfhaeaaW.PrintMore
attribute [local go_sem] max2_int min2_int max_two min_two max_three min_three max_four min_four   -- for this text's walks alone
/-! ### spec_l01Cur_pick: function 24 -/
def spec_l01Cur_pick.f (s0_0 : List Int) (s0_1 : Int) (s0_2 : Int) (a1 : Int) : Option (Int × Int × Int) := if a1 < 2 then (some (0, s0_1, s0_2)) else (if s0_1 < (s0_0.length : Int) then (if 0 ≤ s0_1 then (if a1 > 256 then (if (wrap64 (s0_1 + 1)) < (s0_0.length : Int) then (if 0 ≤ (wrap64 (s0_1 + 1)) then (if a1 = 0 then (none) else (some (Int.tmod (wrap64 ((wrap64 (256 * (wrap64 (rd s0_0 s0_1)))) + (wrap64 (rd s0_0 (wrap64 (s0_1 + 1)))))) a1, wrap64 ((wrap64 (s0_1 + 1)) + 1), s0_2))) else (none)) else (if a1 = 0 then (none) else (some (Int.tmod (wrap64 (rd s0_0 s0_1)) a1, wrap64 (s0_1 + 1), s0_2)))) else (if a1 = 0 then (none) else (some (Int.tmod (wrap64 (rd s0_0 s0_1)) a1, wrap64 (s0_1 + 1), s0_2)))) else (none)) else (if (s0_0.length : Int) > 0 then (if (s0_0.length : Int) = 0 then (none) else (if 0 ≤ (Int.tmod s0_1 (s0_0.length : Int)) then (if (Int.tmod s0_1 (s0_0.length : Int)) < (s0_0.length : Int) then (if a1 = 0 then (none) else (some (Int.tmod (wrap64 ((wrap64 (Int.tdiv (Int.tmod (wrap64 ((wrap64 (s0_2 * 1103)) + 12345)) 65521) 3)) + (wrap64 (rd s0_0 (Int.tmod s0_1 (s0_0.length : Int)))))) a1, wrap64 (s0_1 + 1), Int.tmod (wrap64 ((wrap64 (s0_2 * 1103)) + 12345)) 65521))) else (none)) else (none))) else (if a1 = 0 then (none) else (some (Int.tmod (wrap64 (Int.tdiv (Int.tmod (wrap64 ((wrap64 (s0_2 * 1103)) + 12345)) 65521) 3)) a1, wrap64 (s0_1 + 1), Int.tmod (wrap64 ((wrap64 (s0_2 * 1103)) + 12345)) 65521)))))
set_option maxHeartbeats 8000000 in
set_option maxRecDepth 100000 in
theorem spec_l01Cur_pick.calls (g : Nat) (s0_0 : List Int) (s0_1 : Int) (s0_2 : Int) (a1 : Int) (r1 : Int) (r2 : Int) (r3 : Int) (w0 w : World) (hI : IsS61 w0 w g s0_0 s0_1 s0_2) (hB : Below w0.heap.size w0 w) (h : spec_l01Cur_pick.f s0_0 s0_1 s0_2 a1 = some (r1, r2, r3)) :
    Calls Try.prog 24 #[.pointer (some ⟨g, 0, none⟩), .int .i64 a1] w fun e w' => e = .returned (.int .i64 r1) ∧ IsS61 w0 w' g s0_0 r2 r3 ∧ Below w0.heap.size w0 w' ∧ KeepBut w w' g none := by
  have HI0 := Aside0.mk hI
  have HK := Aside0.mk (KeepBut.refl w g none)
  have HL := Aside0.mk hB.size
  clear hI
  have HW0 := Aside0.mk hB.size
  have HB := Aside0.mk hB
  clear hB
  have H : (if a1 < 2 then (some (0, s0_1, s0_2)) else (if s0_1 < (s0_0.length : Int) then (if 0 ≤ s0_1 then (if a1 > 256 then (if (wrap64 (s0_1 + 1)) < (s0_0.length : Int) then (if 0 ≤ (wrap64 (s0_1 + 1)) then (if a1 = 0 then (none) else (some (Int.tmod (wrap64 ((wrap64 (256 * (wrap64 (rd s0_0 s0_1)))) + (wrap64 (rd s0_0 (wrap64 (s0_1 + 1)))))) a1, wrap64 ((wrap64 (s0_1 + 1)) + 1), s0_2))) else (none)) else (if a1 = 0 then (none) else (some (Int.tmod (wrap64 (rd s0_0 s0_1)) a1, wrap64 (s0_1 + 1), s0_2)))) else (if a1 = 0 then (none) else (some (Int.tmod (wrap64 (rd s0_0 s0_1)) a1, wrap64 (s0_1 + 1), s0_2)))) else (none)) else (if (s0_0.length : Int) > 0 then (if (s0_0.length : Int) = 0 then (none) else (if 0 ≤ (Int.tmod s0_1 (s0_0.length : Int)) then (if (Int.tmod s0_1 (s0_0.length : Int)) < (s0_0.length : Int) then (if a1 = 0 then (none) else (some (Int.tmod (wrap64 ((wrap64 (Int.tdiv (Int.tmod (wrap64 ((wrap64 (s0_2 * 1103)) + 12345)) 65521) 3)) + (wrap64 (rd s0_0 (Int.tmod s0_1 (s0_0.length : Int)))))) a1, wrap64 (s0_1 + 1), Int.tmod (wrap64 ((wrap64 (s0_2 * 1103)) + 12345)) 65521))) else (none)) else (none))) else (if a1 = 0 then (none) else (some (Int.tmod (wrap64 (Int.tdiv (Int.tmod (wrap64 ((wrap64 (s0_2 * 1103)) + 12345)) 65521) 3)) a1, wrap64 (s0_1 + 1), Int.tmod (wrap64 ((wrap64 (s0_2 * 1103)) + 12345)) 65521)))))) = some (r1, r2, r3) := h
  clear h
  by_cases c3 : a1 < 2
  · rw [if_pos c3] at H
    have c3b0 : decide (a1 < 2) = true := decide_eq_true c3
    clear c3
    simp only [Option.some.injEq, Prod.mk.injEq] at H
    obtain ⟨rfl, rfl, rfl⟩ := H
    go_enter Try.func24, Try.ntmps24
    go_wp2
    repeat (go_quiet (fail); try go_wp2)
    go_ret
    exact ⟨by first | rfl | (simp [errW_none, errW_some] <;> rfl) | (simp [*, errW_none, errW_some] <;> rfl), by repeat (first | (with_reducible first | exact HI0.out | apply IsS61.alloc | apply IsS61.drewN | apply IsS61.drew | apply IsS61.set_1 | apply IsS61.set_2) | exact HI0.out), by repeat (first | (with_reducible first | exact HB.out | apply below_alloc | apply pw_below_drewN | apply below_drew1 | refine below_set ?_ (IsS61.ge HI0.out)) | exact HB.out), by repeat (first | (with_reducible first | exact HK.out | apply KeepBut.set_ | apply keep_drewN | apply keep_drew | apply keep_alloc) | exact HK.out)⟩
  · rw [if_neg c3] at H
    have c3b0 : decide (a1 < 2) = false := decide_eq_false c3
    clear c3
    by_cases c4 : s0_1 < (s0_0.length : Int)
    · rw [if_pos c4] at H
      have c4b0 : decide (s0_1 < (s0_0.length : Int)) = true := decide_eq_true c4
      clear c4
      by_cases c5 : 0 ≤ s0_1
      · rw [if_pos c5] at H
        have c5b0 : decide (0 ≤ s0_1) = true := decide_eq_true c5
        clear c5
        by_cases c6 : a1 > 256
        · rw [if_pos c6] at H
          have c6b0 : decide (256 < a1) = true := decide_eq_true c6
          clear c6
          by_cases c7 : (wrap64 (s0_1 + 1)) < (s0_0.length : Int)
          · rw [if_pos c7] at H
            have c7b0 : decide ((wrap64 (s0_1 + 1)) < (s0_0.length : Int)) = true := decide_eq_true c7
            clear c7
            obtain ⟨ji8, hji8⟩ : ∃ j_ : Int, (wrap64 (s0_1 + 1)) = j_ := ⟨_, rfl⟩
            replace H : (if 0 ≤ (ji8) then (if a1 = 0 then (none) else (some (Int.tmod (wrap64 ((wrap64 (256 * (wrap64 (rd s0_0 s0_1)))) + (wrap64 (rd s0_0 (ji8))))) a1, wrap64 ((ji8) + 1), s0_2))) else (none)) = some (r1, r2, r3) := by first | (rw [hji8] at H; exact H) | (simp only [hji8] at H ⊢; exact H)
            (try rw [hji8] at c7b0)
            have hji8w : (IntKind.i64.wrap (s0_1 + 1)) = ji8 := (i64_w _).trans hji8
            by_cases c9 : 0 ≤ (ji8)
            · rw [if_pos c9] at H
              have c9b0 : decide (0 ≤ (ji8)) = true := decide_eq_true c9
              clear c9
              by_cases c10 : a1 = 0
              · rw [if_pos c10] at H
                exact absurd H (by simp)
              · rw [if_neg c10] at H
                have c10b0 : (a1 == 0) = false := beq_eq_false_iff_ne.mpr c10
                have c10b1 : (a1 != 0) = true := bne_iff_ne.mpr c10
                simp only [Option.some.injEq, Prod.mk.injEq] at H
                obtain ⟨rfl, rfl, rfl⟩ := H
                obtain ⟨ASz11_0, cSz11_0, HGz11, hgz11, HSz11_0⟩ := HI0.out
                have hcz11_0 := cellS61_0 HGz11
                have hcz11_1 := cellS61_1 HGz11
                have hcz11_2 := cellS61_2 HGz11
                have hfz11_1 := blk_frozen HGz11 1
                have hfz11_2 := blk_frozen HGz11 2
                clear HGz11 hgz11
                have p128 : 0 ≤ (s0_1 : Int) := of_decide_eq_true (by first | (with_reducible assumption) | assumption)
                have q128 : s0_1 < (s0_0.length : Int) := of_decide_eq_true (by first | (with_reducible assumption) | assumption)
                obtain ⟨ad128, e128, hx128_0⟩ := Kd.at_int HSz11_0 s0_1 p128 q128
                cases e128
                replace hx128_0 := pw_cell_below HB.out hx128_0
                replace p128 := eq_true p128
                replace q128 := eq_true q128
                have p129 : 0 ≤ ((ji8) : Int) := of_decide_eq_true (by first | (with_reducible assumption) | assumption)
                have q129 : (ji8) < (s0_0.length : Int) := of_decide_eq_true (by first | (with_reducible assumption) | assumption)
                obtain ⟨ad129, e129, hx129_0⟩ := Kd.at_int HSz11_0 (ji8) p129 q129
                obtain rfl : ad128 = ad129 := (by injection e129)
                have hn129_0 : ad128.block ≠ g := Nat.ne_of_lt (Nat.lt_of_lt_of_le (by have := World.block_lt_of_cell? _ _ hx129_0; first | rwa [add_block] at this | exact this) (IsS61.ge HI0.out))
                replace hx129_0 := pw_cell_below HB.out hx129_0
                replace hx129_0 := (cell_far (p := ⟨g, 1, none⟩) (by first | (rw [add_block]; exact hn129_0) | (show (Addr.add _ _).block ≠ _; rw [add_block]; exact hn129_0) | exact hn129_0) (.int .i64 ji8)).trans hx129_0
                (try have hy129_0 := fun (n_ : Nat) => (show (((w.drewN n_).setCell ⟨g, 1, none⟩ (.int .i64 ji8))).cell? _ = some _ from hx129_0))
                clear hn129_0
                replace p129 := eq_true p129
                replace q129 := eq_true q129
                go_enter Try.func24, Try.ntmps24
                go_wp2
                repeat (go_quiet (fail); try go_wp2)
                go_ret
                exact ⟨by first | rfl | (simp [errW_none, errW_some] <;> rfl) | (simp only [← hji8]; first | rfl | (simp [errW_none, errW_some] <;> rfl)) | (simp [*, errW_none, errW_some] <;> rfl), by repeat (first | (with_reducible first | exact HI0.out | apply IsS61.alloc | apply IsS61.drewN | apply IsS61.drew | apply IsS61.set_1 | apply IsS61.set_2) | exact HI0.out), by repeat (first | (with_reducible first | exact HB.out | apply below_alloc | apply pw_below_drewN | apply below_drew1 | refine below_set ?_ (IsS61.ge HI0.out)) | exact HB.out), by repeat (first | (with_reducible first | exact HK.out | apply KeepBut.set_ | apply keep_drewN | apply keep_drew | apply keep_alloc) | exact HK.out)⟩
            · rw [if_neg c9] at H
              exact absurd H (by simp)
          · rw [if_neg c7] at H
            have c7b0 : decide ((wrap64 (s0_1 + 1)) < (s0_0.length : Int)) = false := decide_eq_false c7
            clear c7
            by_cases c12 : a1 = 0
            · rw [if_pos c12] at H
              exact absurd H (by simp)
            · rw [if_neg c12] at H
              have c12b0 : (a1 == 0) = false := beq_eq_false_iff_ne.mpr c12
              have c12b1 : (a1 != 0) = true := bne_iff_ne.mpr c12
              simp only [Option.some.injEq, Prod.mk.injEq] at H
              obtain ⟨rfl, rfl, rfl⟩ := H
              obtain ⟨ASz13_0, cSz13_0, HGz13, hgz13, HSz13_0⟩ := HI0.out
              have hcz13_0 := cellS61_0 HGz13
              have hcz13_1 := cellS61_1 HGz13
              have hcz13_2 := cellS61_2 HGz13
              have hfz13_1 := blk_frozen HGz13 1
              have hfz13_2 := blk_frozen HGz13 2
              clear HGz13 hgz13
              have p128 : 0 ≤ (s0_1 : Int) := of_decide_eq_true (by first | (with_reducible assumption) | assumption)
              have q128 : s0_1 < (s0_0.length : Int) := of_decide_eq_true (by first | (with_reducible assumption) | assumption)
              obtain ⟨ad128, e128, hx128_0⟩ := Kd.at_int HSz13_0 s0_1 p128 q128
              cases e128
              replace hx128_0 := pw_cell_below HB.out hx128_0
              replace p128 := eq_true p128
              replace q128 := eq_true q128
              go_enter Try.func24, Try.ntmps24
              go_wp2
              repeat (go_quiet (fail); try go_wp2)
              go_ret
              exact ⟨by first | rfl | (simp [errW_none, errW_some] <;> rfl) | (simp [*, errW_none, errW_some] <;> rfl), by repeat (first | (with_reducible first | exact HI0.out | apply IsS61.alloc | apply IsS61.drewN | apply IsS61.drew | apply IsS61.set_1 | apply IsS61.set_2) | exact HI0.out), by repeat (first | (with_reducible first | exact HB.out | apply below_alloc | apply pw_below_drewN | apply below_drew1 | refine below_set ?_ (IsS61.ge HI0.out)) | exact HB.out), by repeat (first | (with_reducible first | exact HK.out | apply KeepBut.set_ | apply keep_drewN | apply keep_drew | apply keep_alloc) | exact HK.out)⟩
        · rw [if_neg c6] at H
          have c6b0 : decide (256 < a1) = false := decide_eq_false c6
          clear c6
          by_cases c14 : a1 = 0
          · rw [if_pos c14] at H
            exact absurd H (by simp)
          · rw [if_neg c14] at H
            have c14b0 : (a1 == 0) = false := beq_eq_false_iff_ne.mpr c14
            have c14b1 : (a1 != 0) = true := bne_iff_ne.mpr c14
            simp only [Option.some.injEq, Prod.mk.injEq] at H
            obtain ⟨rfl, rfl, rfl⟩ := H
            obtain ⟨ASz15_0, cSz15_0, HGz15, hgz15, HSz15_0⟩ := HI0.out
            have hcz15_0 := cellS61_0 HGz15
            have hcz15_1 := cellS61_1 HGz15
            have hcz15_2 := cellS61_2 HGz15
            have hfz15_1 := blk_frozen HGz15 1
            have hfz15_2 := blk_frozen HGz15 2
            clear HGz15 hgz15
            have p128 : 0 ≤ (s0_1 : Int) := of_decide_eq_true (by first | (with_reducible assumption) | assumption)
            have q128 : s0_1 < (s0_0.length : Int) := of_decide_eq_true (by first | (with_reducible assumption) | assumption)
            obtain ⟨ad128, e128, hx128_0⟩ := Kd.at_int HSz15_0 s0_1 p128 q128
            cases e128
            replace hx128_0 := pw_cell_below HB.out hx128_0
            replace p128 := eq_true p128
            replace q128 := eq_true q128
            go_enter Try.func24, Try.ntmps24
            go_wp2
            repeat (go_quiet (fail); try go_wp2)
            go_ret
            exact ⟨by first | rfl | (simp [errW_none, errW_some] <;> rfl) | (simp [*, errW_none, errW_some] <;> rfl), by repeat (first | (with_reducible first | exact HI0.out | apply IsS61.alloc | apply IsS61.drewN | apply IsS61.drew | apply IsS61.set_1 | apply IsS61.set_2) | exact HI0.out), by repeat (first | (with_reducible first | exact HB.out | apply below_alloc | apply pw_below_drewN | apply below_drew1 | refine below_set ?_ (IsS61.ge HI0.out)) | exact HB.out), by repeat (first | (with_reducible first | exact HK.out | apply KeepBut.set_ | apply keep_drewN | apply keep_drew | apply keep_alloc) | exact HK.out)⟩
      · rw [if_neg c5] at H
        exact absurd H (by simp)
    · rw [if_neg c4] at H
      have c4b0 : decide (s0_1 < (s0_0.length : Int)) = false := decide_eq_false c4
      clear c4
      by_cases c16 : (s0_0.length : Int) > 0
      · rw [if_pos c16] at H
        have c16b0 : decide (0 < (s0_0.length : Int)) = true := decide_eq_true c16
        have c16b1 : decide (0 < s0_0.length) = true := decide_eq_true (by omega)
        clear c16
        by_cases c17 : (s0_0.length : Int) = 0
        · rw [if_pos c17] at H
          exact absurd H (by simp)
        · rw [if_neg c17] at H
          have c17b0 : ((s0_0.length : Int) == 0) = false := beq_eq_false_iff_ne.mpr c17
          have c17b1 : ((s0_0.length : Int) != 0) = true := bne_iff_ne.mpr c17
          have c17b2 : ¬ (s0_0 = []) := fun h_ => c17 (by rw [h_]; rfl)
          obtain ⟨ji18, hji18⟩ : ∃ j_ : Int, (Int.tmod s0_1 (s0_0.length : Int)) = j_ := ⟨_, rfl⟩
          replace H : (if 0 ≤ (ji18) then (if (ji18) < (s0_0.length : Int) then (if a1 = 0 then (none) else (some (Int.tmod (wrap64 ((wrap64 (Int.tdiv (Int.tmod (wrap64 ((wrap64 (s0_2 * 1103)) + 12345)) 65521) 3)) + (wrap64 (rd s0_0 (ji18))))) a1, wrap64 (s0_1 + 1), Int.tmod (wrap64 ((wrap64 (s0_2 * 1103)) + 12345)) 65521))) else (none)) else (none)) = some (r1, r2, r3) := by first | (rw [hji18] at H; exact H) | (simp only [hji18] at H ⊢; exact H)
          by_cases c19 : 0 ≤ (ji18)
          · rw [if_pos c19] at H
            have c19b0 : decide (0 ≤ (ji18)) = true := decide_eq_true c19
            clear c19
            by_cases c20 : (ji18) < (s0_0.length : Int)
            · rw [if_pos c20] at H
              have c20b0 : decide ((ji18) < (s0_0.length : Int)) = true := decide_eq_true c20
              clear c20
              by_cases c21 : a1 = 0
              · rw [if_pos c21] at H
                exact absurd H (by simp)
              · rw [if_neg c21] at H
                have c21b0 : (a1 == 0) = false := beq_eq_false_iff_ne.mpr c21
                have c21b1 : (a1 != 0) = true := bne_iff_ne.mpr c21
                simp only [Option.some.injEq, Prod.mk.injEq] at H
                obtain ⟨rfl, rfl, rfl⟩ := H
                obtain ⟨ASz22_0, cSz22_0, HGz22, hgz22, HSz22_0⟩ := HI0.out
                have hcz22_0 := cellS61_0 HGz22
                have hcz22_1 := cellS61_1 HGz22
                have hcz22_2 := cellS61_2 HGz22
                have hfz22_1 := blk_frozen HGz22 1
                have hfz22_2 := blk_frozen HGz22 2
                clear HGz22 hgz22
                have p130 : 0 ≤ ((ji18) : Int) := of_decide_eq_true (by first | (with_reducible assumption) | assumption)
                have q130 : (ji18) < (s0_0.length : Int) := of_decide_eq_true (by first | (with_reducible assumption) | assumption)
                obtain ⟨ad130, e130, hx130_0⟩ := Kd.at_int HSz22_0 (ji18) p130 q130
                cases e130
                have hn130_0 : ad130.block ≠ g := Nat.ne_of_lt (Nat.lt_of_lt_of_le (by have := World.block_lt_of_cell? _ _ hx130_0; first | rwa [add_block] at this | exact this) (IsS61.ge HI0.out))
                replace hx130_0 := pw_cell_below HB.out hx130_0
                replace hx130_0 := (cell_far (p := ⟨g, 2, none⟩) (by first | (rw [add_block]; exact hn130_0) | (show (Addr.add _ _).block ≠ _; rw [add_block]; exact hn130_0) | exact hn130_0) (.int .i64 (Int.tmod (wrap64 ((wrap64 (s0_2 * 1103)) + 12345)) 65521))).trans hx130_0
                (try have hy130_0 := fun (n_ : Nat) => (show (((w.drewN n_).setCell ⟨g, 2, none⟩ (.int .i64 (Int.tmod (wrap64 ((wrap64 (s0_2 * 1103)) + 12345)) 65521)))).cell? _ = some _ from hx130_0))
                clear hn130_0
                replace p130 := eq_true p130
                replace q130 := eq_true q130
                go_enter Try.func24, Try.ntmps24
                go_wp2
                repeat (go_quiet (fail); try go_wp2)
                go_ret
                exact ⟨by first | rfl | (simp [errW_none, errW_some] <;> rfl) | (simp only [← hji18]; first | rfl | (simp [errW_none, errW_some] <;> rfl)) | (simp [*, errW_none, errW_some] <;> rfl), by repeat (first | (with_reducible first | exact HI0.out | apply IsS61.alloc | apply IsS61.drewN | apply IsS61.drew | apply IsS61.set_1 | apply IsS61.set_2) | exact HI0.out), by repeat (first | (with_reducible first | exact HB.out | apply below_alloc | apply pw_below_drewN | apply below_drew1 | refine below_set ?_ (IsS61.ge HI0.out)) | exact HB.out), by repeat (first | (with_reducible first | exact HK.out | apply KeepBut.set_ | apply keep_drewN | apply keep_drew | apply keep_alloc) | exact HK.out)⟩
            · rw [if_neg c20] at H
              exact absurd H (by simp)
          · rw [if_neg c19] at H
            exact absurd H (by simp)
      · rw [if_neg c16] at H
        have c16b0 : decide (0 < (s0_0.length : Int)) = false := decide_eq_false c16
        have c16b1 : decide (0 < s0_0.length) = false := decide_eq_false (by omega)
        clear c16
        by_cases c23 : a1 = 0
        · rw [if_pos c23] at H
          exact absurd H (by simp)
        · rw [if_neg c23] at H
          have c23b0 : (a1 == 0) = false := beq_eq_false_iff_ne.mpr c23
          have c23b1 : (a1 != 0) = true := bne_iff_ne.mpr c23
          simp only [Option.some.injEq, Prod.mk.injEq] at H
          obtain ⟨rfl, rfl, rfl⟩ := H
          obtain ⟨ASz24_0, cSz24_0, HGz24, hgz24, HSz24_0⟩ := HI0.out
          have hcz24_0 := cellS61_0 HGz24
          have hcz24_1 := cellS61_1 HGz24
          have hcz24_2 := cellS61_2 HGz24
          have hfz24_1 := blk_frozen HGz24 1
          have hfz24_2 := blk_frozen HGz24 2
          clear HGz24 hgz24
          go_enter Try.func24, Try.ntmps24
          go_wp2
          repeat (go_quiet (fail); try go_wp2)
          go_ret
          exact ⟨by first | rfl | (simp [errW_none, errW_some] <;> rfl) | (simp [*, errW_none, errW_some] <;> rfl), by repeat (first | (with_reducible first | exact HI0.out | apply IsS61.alloc | apply IsS61.drewN | apply IsS61.drew | apply IsS61.set_1 | apply IsS61.set_2) | exact HI0.out), by repeat (first | (with_reducible first | exact HB.out | apply below_alloc | apply pw_below_drewN | apply below_drew1 | refine below_set ?_ (IsS61.ge HI0.out)) | exact HB.out), by repeat (first | (with_reducible first | exact HK.out | apply KeepBut.set_ | apply keep_drewN | apply keep_drew | apply keep_alloc) | exact HK.out)⟩
/-- a byte, or a nought beyond -/
theorem rd_byte (c : List Int) (hc : ∀ x ∈ c, 0 ≤ x ∧ x ≤ 255) (i : Int) : 0 ≤ rd c i ∧ rd c i ≤ 255 := by
  unfold rd
  rcases Nat.lt_or_ge i.toNat c.length with h | h
  · rw [List.getD_eq_getElem?_getD, List.getElem?_eq_getElem h, Option.getD_some]
    exact hc _ (List.getElem_mem h)
  · rw [List.getD_eq_getElem?_getD, List.getElem?_eq_none h, Option.getD_none]
    omega
theorem spec_l01Cur_pick.val (c : List Int) (hc : ∀ x ∈ c, 0 ≤ x ∧ x ≤ 255) (hl : c.length ≤ 1048576) (a s n : Int) (ha : 0 ≤ a) (ha2 : a ≤ 1000000000000) (hs0 : 0 ≤ s) (hs1 : s ≤ 65536) :
    ∃ x a' s', spec_l01Cur_pick.f c a s n = some (x, a', s') ∧ 0 ≤ x ∧ (x < n ∨ (n < 2 ∧ x = 0)) ∧ a ≤ a' ∧ a' ≤ a + 2 ∧ 0 ≤ s' ∧ s' ≤ 65536 := by
  unfold spec_l01Cur_pick.f
  by_cases h2 : n < 2
  · rw [if_pos h2]
    exact ⟨0, a, s, rfl, by omega, by omega, by omega, by omega, by omega, by omega⟩
  · rw [if_neg h2]
    have tm : ∀ x : Int, 0 ≤ x → 0 ≤ Int.tmod x n ∧ Int.tmod x n < n := fun x hx => ⟨Int.tmod_nonneg _ hx, Int.tmod_lt_of_pos _ (by omega)⟩
    have n0 : ¬ n = 0 := by omega
    have b1 := rd_byte c hc a
    have b2 := rd_byte c hc (a + 1)
    rw [wrap_in (a + 1) (by omega) (by omega)]
    by_cases h3 : a < c.length
    · rw [if_pos h3, if_pos ha, wrap_in (rd c a) (by omega) (by omega), wrap_in (256 * rd c a) (by omega) (by omega), wrap_in (rd c (a + 1)) (by omega) (by omega), wrap_in (256 * rd c a + rd c (a + 1)) (by omega) (by omega), wrap_in (a + 1 + 1) (by omega) (by omega), if_neg n0, if_neg n0]
      have t1 := tm (256 * rd c a + rd c (a + 1)) (by omega)
      have t2 := tm (rd c a) (by omega)
      by_cases h4 : n > 256
      · rw [if_pos h4]
        by_cases h5 : a + 1 < c.length
        · rw [if_pos h5, if_pos (by omega)]
          exact ⟨_, _, _, rfl, t1.1, .inl t1.2, by omega, by omega, by omega, by omega⟩
        · rw [if_neg h5]
          exact ⟨_, _, _, rfl, t2.1, .inl t2.2, by omega, by omega, by omega, by omega⟩
      · rw [if_neg h4]
        exact ⟨_, _, _, rfl, t2.1, .inl t2.2, by omega, by omega, by omega, by omega⟩
    · rw [if_neg h3, wrap_in (s * 1103) (by omega) (by omega), wrap_in (s * 1103 + 12345) (by omega) (by omega)]
      have q0 : 0 ≤ Int.tmod (s * 1103 + 12345) 65521 := Int.tmod_nonneg _ (by omega)
      have q1 : Int.tmod (s * 1103 + 12345) 65521 < 65521 := Int.tmod_lt_of_pos _ (by omega)
      generalize Int.tmod (s * 1103 + 12345) 65521 = s' at q0 q1 ⊢
      have q2 : 0 ≤ Int.tdiv s' 3 := Int.tdiv_nonneg q0 (by omega)
      have q3 : Int.tdiv s' 3 ≤ s' := Int.tdiv_le_self _ q0
      generalize Int.tdiv s' 3 = z at q2 q3 ⊢
      rw [wrap_in z (by omega) (by omega), if_neg n0, if_neg n0]
      by_cases h6 : (c.length : Int) > 0
      · have t3 : 0 ≤ Int.tmod a c.length ∧ Int.tmod a c.length < c.length := ⟨Int.tmod_nonneg _ ha, Int.tmod_lt_of_pos _ h6⟩
        have b3 := rd_byte c hc (Int.tmod a c.length)
        rw [if_pos h6, if_neg (by omega), if_pos t3.1, if_pos t3.2, wrap_in (rd c (Int.tmod a c.length)) (by omega) (by omega), wrap_in (z + rd c (Int.tmod a c.length)) (by omega) (by omega)]
        have t4 := tm (z + rd c (Int.tmod a c.length)) (by omega)
        exact ⟨_, _, _, rfl, t4.1, .inl t4.2, by omega, by omega, by omega, by omega⟩
      · rw [if_neg h6]
        have t4 := tm z q2
        exact ⟨_, _, _, rfl, t4.1, .inl t4.2, by omega, by omega, by omega, by omega⟩
end Go.Proofs.Ytopebplddfhaeaa.G

namespace Go.Proofs.Ytopebplddfhaeaa.G
open Go.RowKit Go.Proofs.YtopebplddfhaeaaW.PrintWords Go.Proofs.YtopebplddfhaeaaW.PrintLast Go.Proofs.YtopebplddfhaeaaW.PrintMore
attribute [local go_sem] max2_int min2_int max_two min_two max_three min_three max_four min_four   -- for this text's walks alone
/-! ### spec_l01Cur_once: function 25 -/
def spec_l01Cur_once.f (s0_0 : List Int) (s0_1 : Int) (s0_2 : Int) (a1 : Int) : Option (Bool × Int × Int) := (spec_l01Cur_pick.f s0_0 s0_1 s0_2 a1).bind fun bt131 => (some ((bt131.1 == (wrap64 (a1 - 1))), bt131.2.1, bt131.2.2))
set_option maxHeartbeats 8000000 in
set_option maxRecDepth 100000 in
theorem spec_l01Cur_once.calls (g : Nat) (s0_0 : List Int) (s0_1 : Int) (s0_2 : Int) (a1 : Int) (r1 : Bool) (r2 : Int) (r3 : Int) (w0 w : World) (hI : IsS61 w0 w g s0_0 s0_1 s0_2) (hB : Below w0.heap.size w0 w) (h : spec_l01Cur_once.f s0_0 s0_1 s0_2 a1 = some (r1, r2, r3)) :
    Calls Try.prog 25 #[.pointer (some ⟨g, 0, none⟩), .int .i64 a1] w fun e w' => e = .returned (.bool r1) ∧ IsS61 w0 w' g s0_0 r2 r3 ∧ Below w0.heap.size w0 w' ∧ KeepBut w w' g none := by
  have HI0 := Aside0.mk hI
  have HK := Aside0.mk (KeepBut.refl w g none)
  have HL := Aside0.mk hB.size
  clear hI
  have HW0 := Aside0.mk hB.size
  have HB := Aside0.mk hB
  clear hB
  have H : ((spec_l01Cur_pick.f s0_0 s0_1 s0_2 a1).bind fun bt131 => (some ((bt131.1 == (wrap64 (a1 - 1))), bt131.2.1, bt131.2.2))) = some (r1, r2, r3) := h
  clear h
  replace H := Option.bind_eq_some_iff.mp H
  obtain ⟨⟨t131, t132, t133⟩, A30, H⟩ := H
  replace H : (some ((t131 == (wrap64 (a1 - 1))), t132, t133)) = some (r1, r2, r3) := H
  have A3 := Aside0.mk A30
  clear A30
  simp only [Option.some.injEq, Prod.mk.injEq] at H
  obtain ⟨rfl, rfl, rfl⟩ := H
  go_enter Try.func25, Try.ntmps25
  go_wp2_with (first | ((with_reducible refine gate_callee (f := 24) rfl ?_); refine goesL_ (some 7) rfl rfl Try.func24 (by kernel_rfl) rfl #[.pointer (some ⟨g, 0, none⟩), .int .i64 a1] rfl (by (try simp only [List.map_toArray, List.map_cons, List.map_nil]); first | done | rfl | (simp only [List.length_drop, List.length_take]; rfl)) ?_; (with_reducible refine (spec_l01Cur_pick.calls g s0_0 s0_1 s0_2 a1 t131 t132 t133 w0 _ ?side1 ?side2 A3.out).mono ?_); (case side1 => repeat (first | (with_reducible first | exact HI0.out | apply IsS61.alloc | apply IsS61.drewN | apply IsS61.drew | apply IsS61.set_1 | apply IsS61.set_2) | exact HI0.out)); (case side2 => repeat (first | (with_reducible first | exact HB.out | apply below_alloc | apply pw_below_drewN | apply below_drew1 | refine below_set ?_ (IsS61.ge HI0.out)) | exact HB.out)); rintro e w4 ⟨rfl, hi, hb, hk⟩; refine ⟨_, rfl, ?_⟩; have n0_ := Aside0.mk (KeepBut.trans (by repeat (first | (with_reducible first | exact HK.out | apply KeepBut.set_ | apply keep_drewN | apply keep_drew | apply keep_alloc) | exact HK.out)) hk (.inl rfl)); have n1_ := Aside0.mk (hb); have n2_ := Aside0.mk (hi); clear HK; clear HB; clear HI0; have HK := n0_; have HB := n1_; have HI0 := n2_; clear n0_ n1_ n2_; (try clear hb); (try clear hb2); (try clear hk); (try clear hi)))
  go_ret
  exact ⟨by first | rfl | (simp [errW_none, errW_some] <;> rfl) | (simp [*, errW_none, errW_some] <;> rfl), by repeat (first | (with_reducible first | exact HI0.out | apply IsS61.alloc | apply IsS61.drewN | apply IsS61.drew | apply IsS61.set_1 | apply IsS61.set_2) | exact HI0.out), by repeat (first | (with_reducible first | exact HB.out | apply below_alloc | apply pw_below_drewN | apply below_drew1 | refine below_set ?_ (IsS61.ge HI0.out)) | exact HB.out), by repeat (first | (with_reducible first | exact HK.out | apply KeepBut.set_ | apply keep_drewN | apply keep_drew | apply keep_alloc) | exact HK.out)⟩
theorem spec_l01Cur_once.val (c : List Int) (hc : ∀ x ∈ c, 0 ≤ x ∧ x ≤ 255) (hl : c.length ≤ 1048576) (a s n : Int) (ha : 0 ≤ a) (ha2 : a ≤ 1000000000000) (hs0 : 0 ≤ s) (hs1 : s ≤ 65536) :
    ∃ b a' s', spec_l01Cur_once.f c a s n = some (b, a', s') ∧ a ≤ a' ∧ a' ≤ a + 2 ∧ 0 ≤ s' ∧ s' ≤ 65536 := by
  unfold spec_l01Cur_once.f
  obtain ⟨x, a', s', e, h1, h2, h3, h4, h5, h6⟩ := spec_l01Cur_pick.val c hc hl a s n ha ha2 hs0 hs1
  rw [e]
  exact ⟨_, a', s', rfl, h3, h4, h5, h6⟩
end Go.Proofs.Ytopebplddfhaeaa.G

namespace Go.Proofs.Ytopebplddfhaeaa.G
open Go.RowKit Go.Proofs.YtopebplddfhaeaaW.PrintWords Go.Proofs.YtopebplddfhaeaaW.PrintLast Go.Proofs.YtopebplddfhaeaaW.PrintMore
attribute [local go_sem] max2_int min2_int max_two min_two max_three min_three max_four min_four   -- for this text's walks alone
/-! ### spec_l01Cur_odd: function 26 -/
def spec_l01Cur_odd.f (s0_0 : List Int) (s0_1 : Int) (s0_2 : Int) : Option (Int × Int × Int) := (some (([(-1), 0, 1, 2, 255, 256, 65535, 9223372036854775807, (-9223372036854775808), 17, 8, 12] : List Int) : List Int)).bind fun y134 => ((spec_l01Cur_pick.f s0_0 s0_1 s0_2 12).bind fun bt137 => (if 0 ≤ bt137.1 then (if bt137.1 < (y134.length : Int) then (some (rd y134 bt137.1, bt137.2.1, bt137.2.2)) else (none)) else (none)))
set_option maxHeartbeats 8000000 in
set_option maxRecDepth 100000 in
theorem spec_l01Cur_odd.calls (g : Nat) (s0_0 : List Int) (s0_1 : Int) (s0_2 : Int) (r1 : Int) (r2 : Int) (r3 : Int) (w0 w : World) (hI : IsS61 w0 w g s0_0 s0_1 s0_2) (hB : Below w0.heap.size w0 w) (h : spec_l01Cur_odd.f s0_0 s0_1 s0_2 = some (r1, r2, r3)) :
    Calls Try.prog 26 #[.pointer (some ⟨g, 0, none⟩)] w fun e w' => e = .returned (.int .i64 r1) ∧ IsS61 w0 w' g s0_0 r2 r3 ∧ Below w0.heap.size w0 w' ∧ KeepBut w w' g none := by
  have HI0 := Aside0.mk hI
  have HK := Aside0.mk (KeepBut.refl w g none)
  have HL := Aside0.mk hB.size
  clear hI
  have HW0 := Aside0.mk hB.size
  have HB := Aside0.mk hB
  clear hB
  have H : ((some (([(-1), 0, 1, 2, 255, 256, 65535, 9223372036854775807, (-9223372036854775808), 17, 8, 12] : List Int) : List Int)).bind fun y134 => ((spec_l01Cur_pick.f s0_0 s0_1 s0_2 12).bind fun bt137 => (if 0 ≤ bt137.1 then (if bt137.1 < (y134.length : Int) then (some (rd y134 bt137.1, bt137.2.1, bt137.2.2)) else (none)) else (none)))) = some (r1, r2, r3) := h
  clear h
  obtain ⟨y134, hy134⟩ : ∃ y_ : List Int, y_ = (([(-1), 0, 1, 2, 255, 256, 65535, 9223372036854775807, (-9223372036854775808), 17, 8, 12] : List Int)) := ⟨_, rfl⟩
  replace H : ((spec_l01Cur_pick.f s0_0 s0_1 s0_2 12).bind fun bt137 => (if 0 ≤ bt137.1 then (if bt137.1 < (y134.length : Int) then (some (rd y134 bt137.1, bt137.2.1, bt137.2.2)) else (none)) else (none))) = some (r1, r2, r3) := by first | (rw [hy134]; with_reducible exact H) | (have H2_ := (Option.bind_some _ _).symm.trans H; rw [hy134]; with_reducible exact H2_) | (have H2_ := (Option.bind_some _ _).symm.trans H; with_reducible exact H2_) | with_reducible exact H | (rw [hy134]; exact H) | exact H
  have Ny134 := Aside0.mk hy134
  clear hy134
  replace H := Option.bind_eq_some_iff.mp H
  obtain ⟨⟨t137, t138, t139⟩, A20, H⟩ := H
  replace H : (if 0 ≤ t137 then (if t137 < (y134.length : Int) then (some (rd y134 t137, t138, t139)) else (none)) else (none)) = some (r1, r2, r3) := H
  have A2 := Aside0.mk A20
  clear A20
  by_cases c3 : 0 ≤ t137
  · rw [if_pos c3] at H
    have c3b0 : decide (0 ≤ t137) = true := decide_eq_true c3
    clear c3
    by_cases c4 : t137 < (y134.length : Int)
    · rw [if_pos c4] at H
      have c4b0 : decide (t137 < (y134.length : Int)) = true := decide_eq_true c4
      clear c4
      simp only [Option.some.injEq, Prod.mk.injEq] at H
      obtain ⟨rfl, rfl, rfl⟩ := H
      go_enter Try.func26, Try.ntmps26
      go_wp2_with (first | ((with_reducible refine gate_dst (N := 3) rfl ?_); refine Kd.R_lit (Kd.int .i64) _ 3 ?hg (N := 3) ?hd (xs := ([(-1), 0, 1, 2, 255, 256, 65535, 9223372036854775807, (-9223372036854775808), 17, 8, 12] : List Int)) (inner := [.int .i64 (-1), .int .i64 0, .int .i64 1, .int .i64 2, .int .i64 255, .int .i64 256, .int .i64 65535, .int .i64 9223372036854775807, .int .i64 (-9223372036854775808), .int .i64 17, .int .i64 8, .int .i64 12]) (ok := fun _ => True) (okp := fun _ => True) ?hr ?hp (fun _ hk => hk) trivial (Below.refl _ _) (Nat.le_refl _) (by simp) ?_; (case hd => rfl); (case hg => rfl); (case hr => first | (go_simp; done) | (go_simp; rfl)); (case hp => exact (Reps.one (show Kd.M (Kd.int .i64) _ _ _ (-1) [.int .i64 (-1)] from rfl) (Reps.one (show Kd.M (Kd.int .i64) _ _ _ 0 [.int .i64 0] from rfl) (Reps.one (show Kd.M (Kd.int .i64) _ _ _ 1 [.int .i64 1] from rfl) (Reps.one (show Kd.M (Kd.int .i64) _ _ _ 2 [.int .i64 2] from rfl) (Reps.one (show Kd.M (Kd.int .i64) _ _ _ 255 [.int .i64 255] from rfl) (Reps.one (show Kd.M (Kd.int .i64) _ _ _ 256 [.int .i64 256] from rfl) (Reps.one (show Kd.M (Kd.int .i64) _ _ _ 65535 [.int .i64 65535] from rfl) (Reps.one (show Kd.M (Kd.int .i64) _ _ _ 9223372036854775807 [.int .i64 9223372036854775807] from rfl) (Reps.one (show Kd.M (Kd.int .i64) _ _ _ (-9223372036854775808) [.int .i64 (-9223372036854775808)] from rfl) (Reps.one (show Kd.M (Kd.int .i64) _ _ _ 17 [.int .i64 17] from rfl) (Reps.one (show Kd.M (Kd.int .i64) _ _ _ 8 [.int .i64 8] from rfl) (Reps.one (show Kd.M (Kd.int .i64) _ _ _ 12 [.int .i64 12] from rfl) (Reps.none _ _)))))))))))))); intro v135 w5 ho6 hb hg_ hnew_; clear hg_ hnew_; (first | rw [← Ny134.out] at ho6 | (simp only [Int.reduceToNat] at ho6; rw [← Ny134.out] at ho6)); have n0_ := Aside0.mk (Kd.R_lower ho6 (keep_size (w := w) (g := g) (row := none) (by repeat (first | (with_reducible first | exact HK.out | apply KeepBut.set_ | apply keep_drewN | apply keep_drew | apply keep_alloc) | exact HK.out)))); have n1_ := Aside0.mk (IsS61.below (by repeat (first | (with_reducible first | exact HI0.out | apply IsS61.alloc | apply IsS61.drewN | apply IsS61.drew | apply IsS61.set_1 | apply IsS61.set_2) | exact HI0.out)) hb); have n2_ := Aside0.mk (KeepBut.trans (by repeat (first | (with_reducible first | exact HK.out | apply KeepBut.set_ | apply keep_drewN | apply keep_drew | apply keep_alloc) | exact HK.out)) (KeepBut.of_below hb g none) (.inl rfl)); have n3_ := Aside0.mk (below_step (by repeat (first | (with_reducible first | exact HB.out | apply below_alloc | apply pw_below_drewN | apply below_drew1 | refine below_set ?_ (IsS61.ge HI0.out)) | exact HB.out)) hb); clear HI0; clear HK; clear HB; have HO136 := n0_; have HI0 := n1_; have HK := n2_; have HB := n3_; clear n0_ n1_ n2_ n3_; clear hb ho6) | ((with_reducible refine gate_callee (f := 24) rfl ?_); refine goesL_ (some 5) rfl rfl Try.func24 (by kernel_rfl) rfl #[.pointer (some ⟨g, 0, none⟩), .int .i64 12] rfl (by (try simp only [List.map_toArray, List.map_cons, List.map_nil]); first | done | rfl | (simp only [List.length_drop, List.length_take]; rfl)) ?_; (with_reducible refine (spec_l01Cur_pick.calls g s0_0 s0_1 s0_2 12 t137 t138 t139 w0 _ ?side1 ?side2 A2.out).mono ?_); (case side1 => repeat (first | (with_reducible first | exact HI0.out | apply IsS61.alloc | apply IsS61.drewN | apply IsS61.drew | apply IsS61.set_1 | apply IsS61.set_2) | exact HI0.out)); (case side2 => repeat (first | (with_reducible first | exact HB.out | apply below_alloc | apply pw_below_drewN | apply below_drew1 | refine below_set ?_ (IsS61.ge HI0.out)) | exact HB.out)); rintro e w7 ⟨rfl, hi, hb, hk⟩; refine ⟨_, rfl, ?_⟩; have n0_ := Aside0.mk (Kd.R_mono (Kd.R_keep (IsS61.apart (show IsS61 w0 _ g s0_0 s0_1 s0_2 from by repeat (first | (with_reducible first | exact HI0.out | apply IsS61.alloc | apply IsS61.drewN | apply IsS61.drew | apply IsS61.set_1 | apply IsS61.set_2) | exact HI0.out)) (by (with_reducible repeat (first | apply Kd.R_alloc | apply Kd.R_drewN | apply Kd.R_drew)); exact HO136.out) (by decide)) hk (fun _ h => h.2)) (fun _ h => h.1)); have n1_ := Aside0.mk (KeepBut.trans (by repeat (first | (with_reducible first | exact HK.out | apply KeepBut.set_ | apply keep_drewN | apply keep_drew | apply keep_alloc) | exact HK.out)) hk (.inl rfl)); have n2_ := Aside0.mk (hb); have n3_ := Aside0.mk (hi); clear HO136; clear HK; clear HB; clear HI0; have HO136 := n0_; have HK := n1_; have HB := n2_; have HI0 := n3_; clear n0_ n1_ n2_ n3_; (try clear hb); (try clear hb2); (try clear hk); (try clear hi); obtain ⟨Ao8, co8, eo8⟩ := Kd.R_slice HO136.out; subst eo8; have p140 : 0 ≤ (t137 : Int) := of_decide_eq_true (by first | (with_reducible assumption) | assumption); have q140 : t137 < (y134.length : Int) := of_decide_eq_true (by first | (with_reducible assumption) | assumption); obtain ⟨ad140, e140, hx140_0⟩ := Kd.at_int (Kd.R_reads' HO136.out).2.2 t137 p140 q140; cases e140; replace p140 := eq_true p140; replace q140 := eq_true q140))
      go_ret
      exact ⟨by first | rfl | (simp [errW_none, errW_some] <;> rfl) | (simp [*, errW_none, errW_some] <;> rfl), by repeat (first | (with_reducible first | exact HI0.out | apply IsS61.alloc | apply IsS61.drewN | apply IsS61.drew | apply IsS61.set_1 | apply IsS61.set_2) | exact HI0.out), by repeat (first | (with_reducible first | exact HB.out | apply below_alloc | apply pw_below_drewN | apply below_drew1 | refine below_set ?_ (IsS61.ge HI0.out)) | exact HB.out), by repeat (first | (with_reducible first | exact HK.out | apply KeepBut.set_ | apply keep_drewN | apply keep_drew | apply keep_alloc) | exact HK.out)⟩
    · rw [if_neg c4] at H
      exact absurd H (by simp)
  · rw [if_neg c3] at H
    exact absurd H (by simp)
theorem spec_l01Cur_odd.val (c : List Int) (hc : ∀ x ∈ c, 0 ≤ x ∧ x ≤ 255) (hl : c.length ≤ 1048576) (a s : Int) (ha : 0 ≤ a) (ha2 : a ≤ 1000000000000) (hs0 : 0 ≤ s) (hs1 : s ≤ 65536) :
    ∃ x a' s', spec_l01Cur_odd.f c a s = some (x, a', s') ∧ -9223372036854775808 ≤ x ∧ x ≤ 9223372036854775807 ∧ a ≤ a' ∧ a' ≤ a + 2 ∧ 0 ≤ s' ∧ s' ≤ 65536 := by
  unfold spec_l01Cur_odd.f
  obtain ⟨x, a', s', e, h1, h2, h3, h4, h5, h6⟩ := spec_l01Cur_pick.val c hc hl a s 12 ha ha2 hs0 hs1
  rw [Option.bind_some, e]
  simp only [Option.bind_some]
  rw [if_pos h1, if_pos (by simp; omega)]
  refine ⟨_, a', s', rfl, ?_, ?_, h3, h4, h5, h6⟩ <;>
  · have : x = 0 ∨ x = 1 ∨ x = 2 ∨ x = 3 ∨ x = 4 ∨ x = 5 ∨ x = 6 ∨ x = 7 ∨ x = 8 ∨ x = 9 ∨ x = 10 ∨ x = 11 := by omega
    rcases this with h | h | h | h | h | h | h | h | h | h | h | h <;> subst h <;> decide
end Go.Proofs.Ytopebplddfhaeaa.G

namespace Go.Proofs.Ytopebplddfhaeaa.G
open Go.RowKit Go.Proofs.YtopebplddfhaeaaW.PrintWords Go.Proofs.YtopebplddfhaeaaW.PrintLast Go.Proofs.YtopebplddfhaeaaW.PrintMore
attribute [local go_sem] max2_int min2_int max_two min_two max_three min_three max_four min_four   -- for this text's walks alone
/-! ### spec_l01Cur_size: function 51 -/
def spec_l01Cur_size.f (s0_0 : List Int) (s0_1 : Int) (s0_2 : Int) (a1 : Int) : Option (Int × Int × Int) := if (wrap64 (1 + (wrap64 ((s0_0.length : Int) / 10)))) > a1 then ((spec_l01Cur_pick.f s0_0 s0_1 s0_2 (wrap64 (a1 + 1))).bind fun bt141 => (some (bt141.1, bt141.2.1, bt141.2.2))) else ((spec_l01Cur_pick.f s0_0 s0_1 s0_2 (wrap64 ((wrap64 (1 + (wrap64 ((s0_0.length : Int) / 10)))) + 1))).bind fun bt144 => (some (bt144.1, bt144.2.1, bt144.2.2)))
set_option maxHeartbeats 8000000 in
set_option maxRecDepth 100000 in
theorem spec_l01Cur_size.calls (g : Nat) (s0_0 : List Int) (s0_1 : Int) (s0_2 : Int) (a1 : Int) (r1 : Int) (r2 : Int) (r3 : Int) (w0 w : World) (hI : IsS61 w0 w g s0_0 s0_1 s0_2) (hB : Below w0.heap.size w0 w) (h : spec_l01Cur_size.f s0_0 s0_1 s0_2 a1 = some (r1, r2, r3)) :
    Calls Try.prog 51 #[.pointer (some ⟨g, 0, none⟩), .int .i64 a1] w fun e w' => e = .returned (.int .i64 r1) ∧ IsS61 w0 w' g s0_0 r2 r3 ∧ Below w0.heap.size w0 w' ∧ KeepBut w w' g none := by
  have HI0 := Aside0.mk hI
  have HK := Aside0.mk (KeepBut.refl w g none)
  have HL := Aside0.mk hB.size
  clear hI
  have HW0 := Aside0.mk hB.size
  have HB := Aside0.mk hB
  clear hB
  have H : (if (wrap64 (1 + (wrap64 ((s0_0.length : Int) / 10)))) > a1 then ((spec_l01Cur_pick.f s0_0 s0_1 s0_2 (wrap64 (a1 + 1))).bind fun bt141 => (some (bt141.1, bt141.2.1, bt141.2.2))) else ((spec_l01Cur_pick.f s0_0 s0_1 s0_2 (wrap64 ((wrap64 (1 + (wrap64 ((s0_0.length : Int) / 10)))) + 1))).bind fun bt144 => (some (bt144.1, bt144.2.1, bt144.2.2)))) = some (r1, r2, r3) := h
  clear h
  by_cases c3 : (wrap64 (1 + (wrap64 ((s0_0.length : Int) / 10)))) > a1
  · rw [if_pos c3] at H
    have c3b0 : decide (a1 < (wrap64 (1 + (wrap64 ((s0_0.length : Int) / 10))))) = true := decide_eq_true c3
    clear c3
    replace H := Option.bind_eq_some_iff.mp H
    obtain ⟨⟨t141, t142, t143⟩, A40, H⟩ := H
    replace H : (some (t141, t142, t143)) = some (r1, r2, r3) := H
    have A4 := Aside0.mk A40
    clear A40
    simp only [Option.some.injEq, Prod.mk.injEq] at H
    obtain ⟨rfl, rfl, rfl⟩ := H
    obtain ⟨ASz5_0, cSz5_0, HGz5, hgz5, HSz5_0⟩ := HI0.out
    have hcz5_0 := cellS61_0 HGz5
    have hcz5_1 := cellS61_1 HGz5
    have hcz5_2 := cellS61_2 HGz5
    have hfz5_1 := blk_frozen HGz5 1
    have hfz5_2 := blk_frozen HGz5 2
    clear HGz5 hgz5
    go_enter Try.func51, Try.ntmps51
    go_wp2_with (first | ((with_reducible refine gate_callee (f := 24) rfl ?_); refine goesL_ (some 20) rfl rfl Try.func24 (by kernel_rfl) rfl #[.pointer (some ⟨g, 0, none⟩), .int .i64 (wrap64 (a1 + 1))] rfl (by (try simp only [List.map_toArray, List.map_cons, List.map_nil]); first | done | rfl | (simp only [List.length_drop, List.length_take]; rfl)) ?_; (with_reducible refine (spec_l01Cur_pick.calls g s0_0 s0_1 s0_2 (wrap64 (a1 + 1)) t141 t142 t143 w0 _ ?side1 ?side2 A4.out).mono ?_); (case side1 => repeat (first | (with_reducible first | exact HI0.out | apply IsS61.alloc | apply IsS61.drewN | apply IsS61.drew | apply IsS61.set_1 | apply IsS61.set_2) | exact HI0.out)); (case side2 => repeat (first | (with_reducible first | exact HB.out | apply below_alloc | apply pw_below_drewN | apply below_drew1 | refine below_set ?_ (IsS61.ge HI0.out)) | exact HB.out)); rintro e w6 ⟨rfl, hi, hb, hk⟩; refine ⟨_, rfl, ?_⟩; have n0_ := Aside0.mk (KeepBut.trans (by repeat (first | (with_reducible first | exact HK.out | apply KeepBut.set_ | apply keep_drewN | apply keep_drew | apply keep_alloc) | exact HK.out)) hk (.inl rfl)); have n1_ := Aside0.mk (hb); have n2_ := Aside0.mk (hi); clear HK; clear HB; clear HI0; have HK := n0_; have HB := n1_; have HI0 := n2_; clear n0_ n1_ n2_; (try clear hb); (try clear hb2); (try clear hk); (try clear hi)))
    go_ret
    exact ⟨by first | rfl | (simp [errW_none, errW_some] <;> rfl) | (simp [*, errW_none, errW_some] <;> rfl), by repeat (first | (with_reducible first | exact HI0.out | apply IsS61.alloc | apply IsS61.drewN | apply IsS61.drew | apply IsS61.set_1 | apply IsS61.set_2) | exact HI0.out), by repeat (first | (with_reducible first | exact HB.out | apply below_alloc | apply pw_below_drewN | apply below_drew1 | refine below_set ?_ (IsS61.ge HI0.out)) | exact HB.out), by repeat (first | (with_reducible first | exact HK.out | apply KeepBut.set_ | apply keep_drewN | apply keep_drew | apply keep_alloc) | exact HK.out)⟩
  · rw [if_neg c3] at H
    have c3b0 : decide (a1 < (wrap64 (1 + (wrap64 ((s0_0.length : Int) / 10))))) = false := decide_eq_false c3
    clear c3
    replace H := Option.bind_eq_some_iff.mp H
    obtain ⟨⟨t144, t145, t146⟩, A70, H⟩ := H
    replace H : (some (t144, t145, t146)) = some (r1, r2, r3) := H
    have A7 := Aside0.mk A70
    clear A70
    simp only [Option.some.injEq, Prod.mk.injEq] at H
    obtain ⟨rfl, rfl, rfl⟩ := H
    obtain ⟨ASz8_0, cSz8_0, HGz8, hgz8, HSz8_0⟩ := HI0.out
    have hcz8_0 := cellS61_0 HGz8
    have hcz8_1 := cellS61_1 HGz8
    have hcz8_2 := cellS61_2 HGz8
    have hfz8_1 := blk_frozen HGz8 1
    have hfz8_2 := blk_frozen HGz8 2
    clear HGz8 hgz8
    go_enter Try.func51, Try.ntmps51
    go_wp2_with (first | ((with_reducible refine gate_callee (f := 24) rfl ?_); refine goesL_ (some 20) rfl rfl Try.func24 (by kernel_rfl) rfl #[.pointer (some ⟨g, 0, none⟩), .int .i64 (wrap64 ((wrap64 (1 + (wrap64 ((s0_0.length : Int) / 10)))) + 1))] rfl (by (try simp only [List.map_toArray, List.map_cons, List.map_nil]); first | done | rfl | (simp only [List.length_drop, List.length_take]; rfl)) ?_; (with_reducible refine (spec_l01Cur_pick.calls g s0_0 s0_1 s0_2 (wrap64 ((wrap64 (1 + (wrap64 ((s0_0.length : Int) / 10)))) + 1)) t144 t145 t146 w0 _ ?side1 ?side2 A7.out).mono ?_); (case side1 => repeat (first | (with_reducible first | exact HI0.out | apply IsS61.alloc | apply IsS61.drewN | apply IsS61.drew | apply IsS61.set_1 | apply IsS61.set_2) | exact HI0.out)); (case side2 => repeat (first | (with_reducible first | exact HB.out | apply below_alloc | apply pw_below_drewN | apply below_drew1 | refine below_set ?_ (IsS61.ge HI0.out)) | exact HB.out)); rintro e w9 ⟨rfl, hi, hb, hk⟩; refine ⟨_, rfl, ?_⟩; have n0_ := Aside0.mk (KeepBut.trans (by repeat (first | (with_reducible first | exact HK.out | apply KeepBut.set_ | apply keep_drewN | apply keep_drew | apply keep_alloc) | exact HK.out)) hk (.inl rfl)); have n1_ := Aside0.mk (hb); have n2_ := Aside0.mk (hi); clear HK; clear HB; clear HI0; have HK := n0_; have HB := n1_; have HI0 := n2_; clear n0_ n1_ n2_; (try clear hb); (try clear hb2); (try clear hk); (try clear hi)))
    go_ret
    exact ⟨by first | rfl | (simp [errW_none, errW_some] <;> rfl) | (simp [*, errW_none, errW_some] <;> rfl), by repeat (first | (with_reducible first | exact HI0.out | apply IsS61.alloc | apply IsS61.drewN | apply IsS61.drew | apply IsS61.set_1 | apply IsS61.set_2) | exact HI0.out), by repeat (first | (with_reducible first | exact HB.out | apply below_alloc | apply pw_below_drewN | apply below_drew1 | refine below_set ?_ (IsS61.ge HI0.out)) | exact HB.out), by repeat (first | (with_reducible first | exact HK.out | apply KeepBut.set_ | apply keep_drewN | apply keep_drew | apply keep_alloc) | exact HK.out)⟩
theorem spec_l01Cur_size.val (c : List Int) (hc : ∀ x ∈ c, 0 ≤ x ∧ x ≤ 255) (hl : c.length ≤ 1048576) (a s n : Int) (ha : 0 ≤ a) (ha2 : a ≤ 1000000000000) (hs0 : 0 ≤ s) (hs1 : s ≤ 65536) (hn : 0 ≤ n) (hn2 : n ≤ 1000000000) :
    ∃ x a' s', spec_l01Cur_size.f c a s n = some (x, a', s') ∧ 0 ≤ x ∧ x ≤ n ∧ a ≤ a' ∧ a' ≤ a + 2 ∧ 0 ≤ s' ∧ s' ≤ 65536 := by
  unfold spec_l01Cur_size.f
  rw [wrap_in ((c.length : Int) / 10) (by omega) (by omega), wrap_in (1 + (c.length : Int) / 10) (by omega) (by omega), wrap_in (n + 1) (by omega) (by omega), wrap_in (1 + (c.length : Int) / 10 + 1) (by omega) (by omega)]
  by_cases h : 1 + (c.length : Int) / 10 > n
  · obtain ⟨x, a', s', e, h1, h2, h3, h4, h5, h6⟩ := spec_l01Cur_pick.val c hc hl a s (n + 1) ha ha2 hs0 hs1
    rw [if_pos h, e]
    exact ⟨x, a', s', rfl, h1, by omega, h3, h4, h5, h6⟩
  · obtain ⟨x, a', s', e, h1, h2, h3, h4, h5, h6⟩ := spec_l01Cur_pick.val c hc hl a s (1 + (c.length : Int) / 10 + 1) ha ha2 hs0 hs1
    rw [if_neg h, e]
    exact ⟨x, a', s', rfl, h1, by omega, h3, h4, h5, h6⟩
end Go.Proofs.Ytopebplddfhaeaa.G

namespace Go.Proofs.Ytopebplddfhaeaa.G
open Go.RowKit Go.Proofs.YtopebplddfhaeaaW.PrintWords Go.Proofs.YtopebplddfhaeaaW.PrintLast Go.Proofs.YtopebplddfhaeaaW.PrintMore
attribute [local go_sem] max2_int min2_int max_two min_two max_three min_three max_four min_four   -- for this text's walks alone
/-! ### spec_l21DrawPixels: function 33 -/
--import Derived.BigRegion
/-- pixels drawn, k more of them -/
def pxLoop (c : List Int) (b0 b1 b2 : Int) : Nat → List (List Int) → Int → Int → Option (List (List Int) × Int × Int)
  | 0, out, a, s => some (out, a, s)
  | n + 1, out, a, s => (spec_l01Cur_pick.f c a s 256).bind fun x => (spec_l01Cur_pick.f c x.2.1 x.2.2 256).bind fun y => (spec_l01Cur_pick.f c y.2.1 y.2.2 256).bind fun z => (spec_l01Cur_once.f c z.2.1 z.2.2 2).bind fun o =>
    pxLoop c b0 b1 b2 n (out ++ [if o.1 = true then [b0, b1, (b2 + ((n + 1 : Nat) : Int)) % 256] else [x.1, y.1, z.1]]) o.2.1 o.2.2
/-- the same pixel again and again, up to 4096 or one more -/
def pxFill (c : List Int) (b : List Int) : Nat → List (List Int) → Int → Int → Option (List (List Int) × Int × Int)
  | 0, _, _, _ => none
  | n + 1, out, a, s => (spec_l01Cur_pick.f c a s 2).bind fun x => if 0 ≤ x.1 ∧ x.1 < 2 then (if (out.length : Int) < 4096 + x.1 then pxFill c b n (out ++ [b]) x.2.1 x.2.2 else some (out, x.2.1, x.2.2)) else none
def drawPx (c : List Int) (a s n : Int) : Option (List (List Int) × Int × Int) :=
  (spec_l01Cur_pick.f c a s 256).bind fun x => (spec_l01Cur_pick.f c x.2.1 x.2.2 256).bind fun y => (spec_l01Cur_pick.f c y.2.1 y.2.2 256).bind fun z => (spec_l01Cur_size.f c z.2.1 z.2.2 30).bind fun m =>
    (pxLoop c x.1 y.1 z.1 (2 * m.1).toNat [] m.2.1 m.2.2).bind fun p => (spec_l01Cur_once.f c p.2.1 p.2.2 n).bind fun o =>
      if o.1 = true then ((spec_l01Cur_pick.f c o.2.1 o.2.2 3).bind fun q => if q.1 = 0 then ((spec_l01Cur_odd.f c q.2.1 q.2.2).bind fun d => some (p.1 ++ [[d.1, 1, 2]], d.2.1, d.2.2)) else if q.1 = 1 then some (p.1 ++ [[1, 2]], q.2.1, q.2.2) else pxFill c [x.1, y.1, z.1] 4098 p.1 q.2.1 q.2.2) else some (p.1, o.2.1, o.2.2)
def okCur (c : List Int) (a s : Int) : Prop := (∀ x ∈ c, 0 ≤ x ∧ x ≤ 255) ∧ c.length ≤ 1048576 ∧ 0 ≤ a ∧ a ≤ 1000000000 ∧ 0 ≤ s ∧ s ≤ 65536
instance (c : List Int) (a s : Int) : Decidable (okCur c a s) := by unfold okCur; infer_instance
def spec_l21DrawPixels.f (s0_0 : List Int) (s0_1 s0_2 : Int) (a1 : Int) : Option (List (List Int) × Int × Int) := if okCur s0_0 s0_1 s0_2 then drawPx s0_0 s0_1 s0_2 a1 else none
/-- where the drawing stands: the cursor, the pixels, the one that comes again -/
def PxK (w0 w W : World) (g : Nat) (c : List Int) (a s : Int) (v : Value) (out : List (List Int)) : Prop :=
  IsS61 w0 W g c a s ∧ Below w0.heap.size w0 W ∧ KeepBut w W g none ∧ Kd.R (Kd.slice 3 (Kd.int .i64)) 25 W w.heap.size (fun _ => True) v out
theorem curBlk {w0 W : World} {g : Nat} {c : List Int} {a s : Int} (h : IsS61 w0 W g c a s) : ∃ cs, W.heap[g]? = some (.cells cs 61 (0, 0)) := by
  obtain ⟨A, cc, hb, _⟩ := h
  exact ⟨_, hb⟩
theorem keep_trans {w W W2 : World} {g : Nat} (h : KeepBut w W g none) (h2 : KeepBut W W2 g none) : KeepBut w W2 g none :=
  ⟨Nat.le_trans h.1 h2.1, fun k hk hg hr => (h2.2 k (Nat.lt_of_lt_of_le hk h.1) hg hr).trans (h.2 k hk hg hr)⟩
theorem keep_grown {w W W2 : World} {g : Nat} {row : Option Nat} (h : KeepBut w W g none) (h2 : W.grownBy W2 row) (hr : ∀ k, row = some k → w.heap.size ≤ k) : KeepBut w W2 g none :=
  ⟨Nat.le_trans h.1 h2.size, fun k hk hg hn => (h2.block k (Nat.lt_of_lt_of_le hk h.1) (fun e => by have := hr k e.symm; omega)).trans (h.2 k hk hg hn)⟩
theorem PxK.pick {w0 w W W2 : World} {g : Nat} {c : List Int} {a s a' s' : Int} {v : Value} {out : List (List Int)} (h : PxK w0 w W g c a s v out) (hi : IsS61 w0 W2 g c a' s') (hb : Below w0.heap.size w0 W2) (hk : KeepBut W W2 g none) : PxK w0 w W2 g c a' s' v out := by
  obtain ⟨h1, h2, h3, h4⟩ := h
  obtain ⟨cs, hcs⟩ := curBlk h1
  exact ⟨hi, hb, keep_trans h3 hk, Kd.R_mono (Kd.R_keep (Kd.R_types h4 hcs (by decide)) hk (fun _ hk => hk.2)) (fun _ _ => trivial)⟩
theorem rowPick {w0 W W2 : World} {g base : Nat} {c : List Int} {a s : Int} {v : Value} {xs : List Int} (hi : IsS61 w0 W g c a s) (h : Kd.R (Kd.int .i64) 3 W base (fun _ => True) v xs) (hk : KeepBut W W2 g none) : Kd.R (Kd.int .i64) 3 W2 base (fun _ => True) v xs := by
  obtain ⟨cs, hcs⟩ := curBlk hi
  exact Kd.R_mono (Kd.R_keep (Kd.R_types h hcs (by decide)) hk (fun _ hk => hk.2)) (fun _ _ => trivial)
theorem PxK.lit {w0 w W W2 : World} {g : Nat} {c : List Int} {a s : Int} {v : Value} {out : List (List Int)} (h : PxK w0 w W g c a s v out) (hg : W.grownBy W2 none) : PxK w0 w W2 g c a s v out := by
  obtain ⟨h1, h2, h3, h4⟩ := h
  exact ⟨h1.grown hg (by simp), pw_below_grown h2 _ h2.size hg (fun k hk => by cases hk), keep_grown h3 hg (fun k hk => by cases hk), Kd.R_grown h4 hg (by simp)⟩
theorem PxK.push {w0 w W W2 : World} {g : Nat} {c : List Int} {a s : Int} {v v2 : Value} {out out2 : List (List Int)} (h : PxK w0 w W g c a s v out) (hw : w0.heap.size ≤ w.heap.size) (hg : W.grownBy W2 v.ownBlock) (hr : Kd.R (Kd.slice 3 (Kd.int .i64)) 25 W2 w.heap.size (fun _ => True) v2 out2) : PxK w0 w W2 g c a s v2 out2 := by
  obtain ⟨h1, h2, h3, h4⟩ := h
  obtain ⟨cs, hcs⟩ := curBlk h1
  exact ⟨h1.grown hg (Kd.R_ne h4 hcs (by decide)), pw_below_grown h2 _ h2.size hg (fun k hk => Nat.le_trans hw (Kd.R_base h4 k hk)), keep_grown h3 hg (fun k hk => Kd.R_base h4 k hk), hr⟩
theorem rowPush {W W2 : World} {base base2 : Nat} {v u : Value} {out : List (List Int)} {xs : List Int} (h : Kd.R (Kd.int .i64) 3 W base (fun _ => True) u xs) (hv : Kd.R (Kd.slice 3 (Kd.int .i64)) 25 W base2 (fun _ => True) v out) (hg : W.grownBy W2 v.ownBlock) : Kd.R (Kd.int .i64) 3 W2 base (fun _ => True) u xs :=
  Kd.R_grown2 h rfl hg (fun k hk => by obtain ⟨cs, hcs⟩ := Kd.R_typed hv k hk; exact Kd.R_ne h hcs (by decide))
theorem rowM {W : World} {base base2 : Nat} {v u : Value} {out : List (List Int)} {xs : List Int} (h : Kd.R (Kd.int .i64) 3 W base (fun _ => True) u xs) (hv : Kd.R (Kd.slice 3 (Kd.int .i64)) 25 W base2 (fun _ => True) v out) :
    (Kd.slice 3 (Kd.int .i64)).M W base (fun k => some k = u.ownBlock) xs [u] ∧ ∀ k, some k = u.ownBlock → True ∧ some k ≠ v.ownBlock :=
  ⟨Kd.M_row (Kd.R_mono (Kd.R_tight2 rfl h) (fun k hk => hk.1)), fun k hk => ⟨trivial, fun e => by
    obtain ⟨cs, hcs⟩ := Kd.R_typed hv k e.symm
    exact Kd.R_ne h hcs (by decide) hk⟩⟩
theorem pickB {c : List Int} {a s n x a' s' : Int} (hc : ∀ x ∈ c, 0 ≤ x ∧ x ≤ 255) (hl : c.length ≤ 1048576) (ha : 0 ≤ a) (ha2 : a ≤ 1000000000000) (hs0 : 0 ≤ s) (hs1 : s ≤ 65536) (h : spec_l01Cur_pick.f c a s n = some (x, a', s')) : 0 ≤ x ∧ (x < n ∨ (n < 2 ∧ x = 0)) ∧ a ≤ a' ∧ a' ≤ a + 2 ∧ 0 ≤ s' ∧ s' ≤ 65536 := by
  obtain ⟨x2, a2, s2, e, r⟩ := spec_l01Cur_pick.val c hc hl a s n ha ha2 hs0 hs1
  rw [e] at h
  cases h
  exact r
theorem sizeB {c : List Int} {a s n x a' s' : Int} (hc : ∀ x ∈ c, 0 ≤ x ∧ x ≤ 255) (hl : c.length ≤ 1048576) (ha : 0 ≤ a) (ha2 : a ≤ 1000000000000) (hs0 : 0 ≤ s) (hs1 : s ≤ 65536) (hn : 0 ≤ n) (hn2 : n ≤ 1000000000) (h : spec_l01Cur_size.f c a s n = some (x, a', s')) : 0 ≤ x ∧ x ≤ n ∧ a ≤ a' ∧ a' ≤ a + 2 ∧ 0 ≤ s' ∧ s' ≤ 65536 := by
  obtain ⟨x2, a2, s2, e, r⟩ := spec_l01Cur_size.val c hc hl a s n ha ha2 hs0 hs1 hn hn2
  rw [e] at h
  cases h
  exact r
def PxRel (w0 w : World) (g : Nat) (c : List Int) (x y z : Int) (v6 : Value) (P : List (List Int) × Int × Int) (kq : Nat) (v5 v7 : Value) (W : World) : Prop :=
  ∃ (n : Nat) (out : List (List Int)) (a s : Int), v7 = .int .i64 n ∧ n ≤ 60 ∧ Aside0 (PxK w0 w W g c a s v5 out) ∧ Aside0 (Kd.R (Kd.int .i64) 3 W w.heap.size (fun _ => True) v6 [x, y, z]) ∧ Aside0 (pxLoop c x y z n out a s = some P) ∧ out.length + n ≤ 60 ∧ kq = n + 1
theorem cells3 {W : World} {base : Nat} {g6 c6 : Nat} {x y z : Int} (h : Kd.R (Kd.int .i64) 3 W base (fun _ => True) (.slice (some ⟨g6, 0, none⟩) 3 c6) [x, y, z]) : W.cell? ⟨g6, 0, none⟩ = some (.int .i64 x) ∧ W.cell? ⟨g6, 1, none⟩ = some (.int .i64 y) ∧ W.cell? ⟨g6, 2, none⟩ = some (.int .i64 z) := by
  have key : ∀ (i : Nat) (v : Int), i < 3 → [x, y, z].getD i 0 = v → W.cell? ⟨g6, i, none⟩ = some (.int .i64 v) := by
    intro i v hi hv
    obtain ⟨c, hcl, hM, hcc, _⟩ := Kd.R_elem h 0 (i : Int) (by omega) (by omega)
    rw [Int.toNat_natCast, hv] at hM
    have hc : c = [.int .i64 v] := hM
    subst hc
    have := hcc 0 _ rfl
    rwa [show (Kd.int .i64).sz = 1 from rfl, Int.toNat_natCast, Nat.mul_one, Nat.add_zero] at this
  exact ⟨key 0 x (by omega) rfl, key 1 y (by omega) rfl, key 2 z (by omega) rfl⟩
theorem lit3_R (W : World) (base : Nat) (a b c : Int) (hb : base ≤ W.heap.size) : Kd.R (Kd.int .i64) 3 (W.alloc (.cells #[.int .i64 a, .int .i64 b, .int .i64 c] 3)) base (fun _ => True) (.slice (some ⟨W.heap.size, 0, none⟩) 3 3) [a, b, c] := by
  have ho := own_lit W base 3 .i64 [a, b, c] hb (by simp)
  refine ⟨fun _ _ => trivial, nums .i64 [a, b, c], ho, ?_⟩
  exact (Reps.one (show Kd.M (Kd.int .i64) _ _ _ a [.int .i64 a] from rfl) (Reps.one (show Kd.M (Kd.int .i64) _ _ _ b [.int .i64 b] from rfl) (Reps.one (show Kd.M (Kd.int .i64) _ _ _ c [.int .i64 c] from rfl) (Reps.none _ _))))
def PxFillRel (w0 w : World) (g : Nat) (c : List Int) (x y z : Int) (v6 : Value) (P : List (List Int) × Int × Int) (kq : Nat) (v5 : Value) (W : World) : Prop :=
  ∃ (n : Nat) (out : List (List Int)) (a s : Int), Aside0 (PxK w0 w W g c a s v5 out) ∧ Aside0 (Kd.R (Kd.int .i64) 3 W w.heap.size (fun _ => True) v6 [x, y, z]) ∧ Aside0 (pxFill c [x, y, z] n out a s = some P) ∧ kq = n
theorem lit2_R (W : World) (base : Nat) (a b : Int) (hb : base ≤ W.heap.size) : Kd.R (Kd.int .i64) 3 (W.alloc (.cells #[.int .i64 a, .int .i64 b] 3)) base (fun _ => True) (.slice (some ⟨W.heap.size, 0, none⟩) 2 2) [a, b] := by
  have ho := own_lit W base 3 .i64 [a, b] hb (by simp)
  refine ⟨fun _ _ => trivial, nums .i64 [a, b], ho, ?_⟩
  exact (Reps.one (show Kd.M (Kd.int .i64) _ _ _ a [.int .i64 a] from rfl) (Reps.one (show Kd.M (Kd.int .i64) _ _ _ b [.int .i64 b] from rfl) (Reps.none _ _)))
set_option maxRecDepth 100000 in
set_option maxHeartbeats 8000000 in
theorem spec_l21DrawPixels.calls (g : Nat) (s0_0 : List Int) (s0_1 : Int) (s0_2 : Int) (a1 : Int) (r1 : List (List Int)) (r2 : Int) (r3 : Int) (w0 w : World) (hI : IsS61 w0 w g s0_0 s0_1 s0_2) (hB : Below w0.heap.size w0 w) (h : spec_l21DrawPixels.f s0_0 s0_1 s0_2 a1 = some (r1, r2, r3)) :
    Calls Try.prog 33 #[.pointer (some ⟨g, 0, none⟩), .int .i64 a1] w fun e w' => ∃ v0_ : Value, e = .returned v0_ ∧ Kd.R (Kd.slice 3 (Kd.int .i64)) 25 w' w.heap.size (fun _ => True) v0_ r1 ∧ IsS61 w0 w' g s0_0 r2 r3 ∧ Below w0.heap.size w0 w' ∧ KeepBut w w' g none := by
  unfold spec_l21DrawPixels.f at h
  split at h
  · rename_i hok
    have HOKC := Aside0.mk hok
    have HI := Aside0.mk hI
    have HB := Aside0.mk hB
    clear hok hI hB
    unfold drawPx at h
    obtain ⟨⟨x, xa, xs⟩, hx, h⟩ := Option.bind_eq_some_iff.1 h
    obtain ⟨⟨y, ya, ys⟩, hy, h⟩ := Option.bind_eq_some_iff.1 h
    obtain ⟨⟨z, za, zs⟩, hz, h⟩ := Option.bind_eq_some_iff.1 h
    obtain ⟨⟨m, ma, ms⟩, hm, h⟩ := Option.bind_eq_some_iff.1 h
    obtain ⟨⟨p, pa, ps⟩, hp, h⟩ := Option.bind_eq_some_iff.1 h
    obtain ⟨⟨o, oa, os⟩, ho, h⟩ := Option.bind_eq_some_iff.1 h
    simp only [] at hx hy hz hm hp ho h
    obtain ⟨hc1, hc2, hc3, hc4, hc5, hc6⟩ := HOKC.out
    have b1 := pickB hc1 hc2 hc3 (by omega) hc5 hc6 hx
    have b2 := pickB hc1 hc2 (by omega) (by omega) b1.2.2.2.2.1 b1.2.2.2.2.2 hy
    have b3 := pickB hc1 hc2 (by omega) (by omega) b2.2.2.2.2.1 b2.2.2.2.2.2 hz
    have b4 := sizeB hc1 hc2 (by omega) (by omega) b3.2.2.2.2.1 b3.2.2.2.2.2 (by omega) (by omega) hm
    have z0 : 0 ≤ z := b3.1
    have z1 : z ≤ 255 := by omega
    have m0 : 0 ≤ m := b4.1
    have m1 : m ≤ 30 := b4.2.1
    have HX := Aside0.mk hx; have HY := Aside0.mk hy; have HZ := Aside0.mk hz; have HM := Aside0.mk hm; have HP := Aside0.mk hp; have HOO := Aside0.mk ho; have HH := Aside0.mk h
    clear hx hy hz hm hp ho h hc1 hc2 hc3 hc4 hc5 hc6 b1 b2 b3 b4
    have HW := Aside0.mk HB.out.size
    go_enter Try.func33, Try.ntmps33
    go_wp2_with (first | ((with_reducible refine gate_dst (N := 9) rfl ?_); refine Kd.R_lit (w0 := w) (Kd.slice 3 (Kd.int .i64)) w.heap.size 25 ?hg (N := 9) ?hd (xs := ([] : List (List Int))) (inner := []) (ok := fun _ => True) (okp := fun _ => True) ?hr ?hp (fun _ hk => hk) trivial (Below.refl _ _) (Nat.le_refl _) (by simp) ?_; (case hd => rfl); (case hg => rfl); (case hr => first | (go_simp; done) | (go_simp; rfl)); (case hp => exact (Reps.none _ _)); intro v5 w1 ho hb hg_ hnew_; have PX := Aside0.mk (show PxK w0 w w1 g s0_0 s0_1 s0_2 v5 [] from ⟨HI.out.grown hg_ (by simp), pw_below_grown HB.out _ HB.out.size hg_ (fun k hk => by cases hk), keep_grown (KeepBut.refl w g none) hg_ (fun k hk => by cases hk), ho⟩); clear ho hb hg_ hnew_))
    clear HI HB
    refine (spec_l01Cur_pick.calls g s0_0 s0_1 s0_2 256 x xa xs w0 _ PX.out.1 PX.out.2.1 HX.out).mono ?_
    rintro e_ w_ ⟨rfl, hi_, hb_, hk_⟩
    have PX_ := Aside0.mk (PX.out.pick hi_ hb_ hk_); clear PX hi_ hb_ hk_; have PX := PX_; clear PX_
    go_wp2_with fail
    refine (spec_l01Cur_pick.calls g s0_0 xa xs 256 y ya ys w0 _ PX.out.1 PX.out.2.1 HY.out).mono ?_
    rintro e_ w_ ⟨rfl, hi_, hb_, hk_⟩
    have PX_ := Aside0.mk (PX.out.pick hi_ hb_ hk_); clear PX hi_ hb_ hk_; have PX := PX_; clear PX_
    go_wp2_with fail
    refine (spec_l01Cur_pick.calls g s0_0 ya ys 256 z za zs w0 _ PX.out.1 PX.out.2.1 HZ.out).mono ?_
    rintro e_ w_ ⟨rfl, hi_, hb_, hk_⟩
    have PX_ := Aside0.mk (PX.out.pick hi_ hb_ hk_); clear PX hi_ hb_ hk_; have PX := PX_; clear PX_
    go_wp2_with (first | ((with_reducible refine gate_dst (N := 16) rfl ?_); go_loud (refine Kd.R_lit (w0 := _) (Kd.int .i64) w.heap.size 3 ?hg (N := 16) ?hd (xs := [x, y, z]) (inner := [.int .i64 x, .int .i64 y, .int .i64 z]) (ok := fun _ => True) (okp := fun _ => False) ?hr ?hp (fun _ hk => hk.elim) trivial (Below.mono (Below.refl _ _) PX.out.2.2.1.1) PX.out.2.2.1.1 (by simp) ?_); (case hd => rfl); (case hg => rfl); (case hr => first | (go_simp; done) | (go_simp; rfl)); (case hp => exact (Reps.one (show Kd.M (Kd.int .i64) _ _ _ x [.int .i64 x] from rfl) (Reps.one (show Kd.M (Kd.int .i64) _ _ _ y [.int .i64 y] from rfl) (Reps.one (show Kd.M (Kd.int .i64) _ _ _ z [.int .i64 z] from rfl) (Reps.none _ _))))); intro v6 wb ho hb hg_ hnew_; have HL := Aside0.mk ho; have HGL := Aside0.mk hg_; clear ho hb hg_ hnew_))
    have PX_ := Aside0.mk (PX.out.lit HGL.out); clear PX HGL; have PX := PX_; clear PX_
    refine (spec_l01Cur_size.calls g s0_0 za zs 30 m ma ms w0 _ PX.out.1 PX.out.2.1 HM.out).mono ?_
    rintro e_ w_ ⟨rfl, hi_, hb_, hk_⟩
    have HV6 := Aside0.mk (rowPick PX.out.1 HL.out hk_)
    have PX_ := Aside0.mk (PX.out.pick hi_ hb_ hk_); clear PX HL hi_ hb_ hk_; have PX := PX_; clear PX_
    have e1 : wrap64 (m * 2) = m * 2 := wrap_in _ (by omega) (by omega)
    obtain ⟨N, hN⟩ : ∃ N : Nat, m * 2 = N := ⟨(m * 2).toNat, by omega⟩
    have hN2 : (2 * m).toNat = N := by omega
    have HN := Aside0.mk hN
    have hP := HP.out
    rw [hN2] at hP
    have HP2 := Aside0.mk hP
    have hN60 : N ≤ 60 := by omega
    clear hP HP hN2 hN
    go_wp2_with fail
    go_loopg [5, 7] (N + 1) (fun kq v5 v7 W => PxRel w0 w g s0_0 x y z v6 (p, pa, ps) kq v5 v7 W)
    case atStart => exact ⟨N, [], ma, ms, by first | rfl | rw [HN.out] | (rw [← HN.out]; first | rfl | rw [e1]), hN60, PX, HV6, HP2, by simp; omega, rfl⟩
    case round =>
      clear PX HV6 HP2
      obtain ⟨n, out, a, s, rfl, hn, PX, HV6, HP2, hon, rfl⟩ := hrel
      cases n with
      | zero =>
        have hP := HP2.out
        simp only [pxLoop, Option.some.injEq, Prod.mk.injEq] at hP
        obtain ⟨rfl, rfl, rfl⟩ := hP
        go_wp2_with fail
        refine (spec_l01Cur_once.calls g s0_0 a s a1 o oa os w0 _ PX.out.1 PX.out.2.1 HOO.out).mono ?_
        rintro e_ w_ ⟨rfl, hi_, hb_, hk_⟩
        have R_ := Aside0.mk (rowPick PX.out.1 HV6.out hk_); clear HV6; have HV6 := R_; clear R_
        have PX_ := Aside0.mk (PX.out.pick hi_ hb_ hk_); clear PX hi_ hb_ hk_; have PX := PX_; clear PX_
        have h := HH.out
        cases o with
        | false =>
          rw [if_neg (by decide)] at h
          simp only [Option.some.injEq, Prod.mk.injEq] at h
          obtain ⟨rfl, rfl, rfl⟩ := h
          go_wp2_with fail
          go_ret
          exact ⟨_, rfl, PX.out.2.2.2, PX.out.1, PX.out.2.1, PX.out.2.2.1⟩
        | true =>
          rw [if_pos rfl] at h
          obtain ⟨⟨q, qa, qs⟩, hq, h⟩ := Option.bind_eq_some_iff.1 h
          simp only [] at hq h
          have HQ := Aside0.mk hq
          replace HH := Aside0.mk h
          clear h hq
          go_wp2_with fail
          refine (spec_l01Cur_pick.calls g s0_0 oa os 3 q qa qs w0 _ PX.out.1 PX.out.2.1 HQ.out).mono ?_
          rintro e_ w_ ⟨rfl, hi_, hb_, hk_⟩
          have R_ := Aside0.mk (rowPick PX.out.1 HV6.out hk_); clear HV6; have HV6 := R_; clear R_
          have PX_ := Aside0.mk (PX.out.pick hi_ hb_ hk_); clear PX hi_ hb_ hk_; have PX := PX_; clear PX_
          have h := HH.out
          by_cases hq0 : q = 0
          · rw [if_pos hq0] at h
            obtain ⟨⟨d, da, ds⟩, hd, h⟩ := Option.bind_eq_some_iff.1 h
            simp only [Option.some.injEq, Prod.mk.injEq] at hd h
            obtain ⟨rfl, rfl, rfl⟩ := h
            have HD := Aside0.mk hd
            clear hd
            go_wp2_with fail
            refine (spec_l01Cur_odd.calls g s0_0 qa qs d da ds w0 _ PX.out.1 PX.out.2.1 HD.out).mono ?_
            rintro e_ w_ ⟨rfl, hi_, hb_, hk_⟩
            have PX_ := Aside0.mk (PX.out.pick hi_ hb_ hk_); clear PX hi_ hb_ hk_; have PX := PX_; clear PX_
            go_wp2_with (first | ((with_reducible refine gate_dst (N := 70) rfl ?_); refine Kd.R_lit (w0 := _) (Kd.int .i64) w.heap.size 3 ?hg (N := 70) ?hd (xs := [d, 1, 2]) (inner := [.int .i64 (d), .int .i64 (1), .int .i64 (2)]) (ok := fun _ => True) (okp := fun _ => False) ?hr ?hp (fun _ hk => hk.elim) trivial (Below.mono (Below.refl _ _) PX.out.2.2.1.1) PX.out.2.2.1.1 (by simp) ?_; (case hd => rfl); (case hg => rfl); (case hr => first | (go_simp; done) | (go_simp; rfl)); (case hp => exact (Reps.one (show Kd.M (Kd.int .i64) _ _ _ (d) [.int .i64 (d)] from rfl) (Reps.one (show Kd.M (Kd.int .i64) _ _ _ (1) [.int .i64 (1)] from rfl) (Reps.one (show Kd.M (Kd.int .i64) _ _ _ (2) [.int .i64 (2)] from rfl) (Reps.none _ _))))); intro vb wb ho hb hg_ hnew_; obtain ⟨A8, c8, e8⟩ := Kd.R_slice ho; rw [show [d, 1, 2].length = 3 from rfl] at e8; subst e8; have HL := Aside0.mk ho; have HPL := Aside0.mk (PX.out.lit hg_); have HML := Aside0.mk (rowM HL.out HPL.out.2.2.2); clear ho hb hg_ hnew_) | ((with_reducible refine gate_builtin (b := .append) (xs := #[.tmp 67, .tmp 71]) rfl ?_); at_builtin; go_loud (refine Kd.R_append (Kd.slice 3 (Kd.int .i64)) (w0 := _) w.heap.size rfl (.tmp 67) (.tmp 71) 24 25 (.slice none 0 0) 24 rfl Try.underlying24 info25 rfl (by decide) (by omega) u5 out [d, 1, 2] [.slice A8 3 c8] (fun _ => True) (fun k => some k = Value.ownBlock (.slice A8 3 c8)) rfl rfl HML.out.1 HML.out.2 (fun _ _ => trivial) HPL.out.2.2.2 (Below.mono (Below.refl _ _) HPL.out.2.2.1.1) HPL.out.2.2.1.1 (by omega) ?_; intro v49 w6 ho hb hg hat); have HF := Aside0.mk (HPL.out.push HW.out hg ho); clear ho hb hg hat))
            go_ret
            exact ⟨_, rfl, HF.out.2.2.2, HF.out.1, HF.out.2.1, HF.out.2.2.1⟩
          · rw [if_neg hq0] at h
            by_cases hq1 : q = 1
            · rw [if_pos hq1] at h
              simp only [Option.some.injEq, Prod.mk.injEq] at h
              obtain ⟨rfl, rfl, rfl⟩ := h
              go_wp2_with (first | ((with_reducible refine gate_dst (N := 76) rfl ?_); refine Kd.R_lit (w0 := _) (Kd.int .i64) w.heap.size 3 ?hg (N := 76) ?hd (xs := [1, 2]) (inner := [.int .i64 (1), .int .i64 (2)]) (ok := fun _ => True) (okp := fun _ => False) ?hr ?hp (fun _ hk => hk.elim) trivial (Below.mono (Below.refl _ _) PX.out.2.2.1.1) PX.out.2.2.1.1 (by simp) ?_; (case hd => rfl); (case hg => rfl); (case hr => first | rfl | (go_simp; done) | (go_simp; rfl)); (case hp => exact (Reps.one (show Kd.M (Kd.int .i64) _ _ _ (1) [.int .i64 (1)] from rfl) (Reps.one (show Kd.M (Kd.int .i64) _ _ _ (2) [.int .i64 (2)] from rfl) (Reps.none _ _)))); intro vb wb ho hb hg_ hnew_; obtain ⟨A8, c8, e8⟩ := Kd.R_slice ho; rw [show ([1, 2] : List Int).length = 2 from rfl] at e8; subst e8; have HL := Aside0.mk ho; have HPL := Aside0.mk (PX.out.lit hg_); have HML := Aside0.mk (rowM HL.out HPL.out.2.2.2); clear ho hb hg_ hnew_) | ((with_reducible refine gate_builtin (b := .append) (xs := #[.tmp 75, .tmp 77]) rfl ?_); at_builtin; go_loud (refine Kd.R_append (Kd.slice 3 (Kd.int .i64)) (w0 := _) w.heap.size rfl (.tmp 75) (.tmp 77) 24 25 (.slice none 0 0) 24 rfl Try.underlying24 info25 rfl (by decide) (by omega) u5 out [1, 2] [.slice A8 2 c8] (fun _ => True) (fun k => some k = Value.ownBlock (.slice A8 2 c8)) rfl rfl HML.out.1 HML.out.2 (fun _ _ => trivial) HPL.out.2.2.2 (Below.mono (Below.refl _ _) HPL.out.2.2.1.1) HPL.out.2.2.1.1 (by omega) ?_; intro v49 w6 ho hb hg hat); have HF := Aside0.mk (HPL.out.push HW.out hg ho); clear ho hb hg hat))
              go_ret
              exact ⟨_, rfl, HF.out.2.2.2, HF.out.1, HF.out.2.1, HF.out.2.2.1⟩
            · rw [if_neg hq1] at h
              replace HH := Aside0.mk h
              clear h
              go_wp2_with fail
              simp only [show (q == 0) = false by simp [hq0], show (q == 1) = false by simp [hq1]]
              go_loopg [5] 4098 (fun kq v5 W => PxFillRel w0 w g s0_0 x y z v6 (r1, r2, r3) kq v5 W)
              case atStart => exact ⟨4098, out, qa, qs, PX, HV6, HH, rfl⟩
              case round =>
                clear PX HV6 HH
                obtain ⟨nf, out, a, s, PX, HV6, HP2, ek⟩ := hrel
                cases nf with
                | zero => exact absurd HP2.out (by simp [pxFill])
                | succ n =>
                  subst ek
                  have hP := HP2.out
                  simp only [pxFill] at hP
                  obtain ⟨⟨x1, xa1, xs1⟩, hx1, hP⟩ := Option.bind_eq_some_iff.1 hP
                  simp only [] at hx1 hP
                  split at hP
                  · rename_i hx2
                    obtain ⟨hx20, hx21⟩ := hx2
                    have HX1 := Aside0.mk hx1
                    have HP3 := Aside0.mk hP
                    clear hx1 hP HP2
                    have HLn := Kd.R_slice PX.out.2.2.2
                    obtain ⟨A5, c5, e5⟩ := HLn
                    subst e5
                    go_wp2_with fail
                    refine (spec_l01Cur_pick.calls g s0_0 a s 2 x1 xa1 xs1 w0 _ PX.out.1 PX.out.2.1 HX1.out).mono ?_
                    rintro e_ w_ ⟨rfl, hi_, hb_, hk_⟩
                    have R_ := Aside0.mk (rowPick PX.out.1 HV6.out hk_); clear HV6; have HV6 := R_; clear R_
                    have PX_ := Aside0.mk (PX.out.pick hi_ hb_ hk_); clear PX hi_ hb_ hk_; have PX := PX_; clear PX_
                    have e4 : wrap64 (4096 + x1) = 4096 + x1 := wrap_in _ (by omega) (by omega)
                    have hP := HP3.out
                    by_cases hlt : (out.length : Int) < 4096 + x1
                    · rw [if_pos hlt] at hP
                      replace HP3 := Aside0.mk hP
                      clear hP
                      obtain ⟨A6, c6, e6⟩ := Kd.R_slice HV6.out
                      rw [show [x, y, z].length = 3 from rfl] at e6
                      subst e6
                      have HMM := Aside0.mk (rowM HV6.out PX.out.2.2.2)
                      have hlen : out.length + 1 ≤ 5000 := by omega
                      go_wp2_with (first | ((with_reducible refine gate_builtin (b := .append) (xs := #[.tmp 61, .tmp 63]) rfl ?_); at_builtin; go_loud (refine Kd.R_append (Kd.slice 3 (Kd.int .i64)) (w0 := _) w.heap.size rfl (.tmp 61) (.tmp 63) 24 25 (.slice none 0 0) 24 rfl Try.underlying24 info25 rfl (by decide) (by omega) (.slice A5 out.length c5) out [x, y, z] [.slice A6 3 c6] (fun _ => True) (fun k => some k = Value.ownBlock (.slice A6 3 c6)) rfl rfl HMM.out.1 HMM.out.2 (fun _ _ => trivial) PX.out.2.2.2 (Below.mono (Below.refl _ _) PX.out.2.2.1.1) PX.out.2.2.1.1 (by omega) ?_; intro v49 w6 ho hb hg hat); have HR6 := Aside0.mk ho; have HG6 := Aside0.mk hg; clear ho hb hg hat))
                      go_roundg n
                      case rel => exact ⟨n, out ++ [[x, y, z]], xa1, xs1, ⟨PX.out.push HW.out HG6.out HR6.out⟩, ⟨rowPush HV6.out PX.out.2.2.2 HG6.out⟩, HP3, rfl⟩
                      case measure => simp
                    · rw [if_neg hlt] at hP
                      simp only [Option.some.injEq, Prod.mk.injEq] at hP
                      obtain ⟨rfl, rfl, rfl⟩ := hP
                      go_wp2_with fail
                      go_ret
                      exact ⟨_, rfl, PX.out.2.2.2, PX.out.1, PX.out.2.1, PX.out.2.2.1⟩
                  · cases hP
      | succ n =>
        have hP := HP2.out
        simp only [pxLoop] at hP
        obtain ⟨⟨x1, xa1, xs1⟩, hx1, hP⟩ := Option.bind_eq_some_iff.1 hP
        obtain ⟨⟨y1, ya1, ys1⟩, hy1, hP⟩ := Option.bind_eq_some_iff.1 hP
        obtain ⟨⟨z1_, za1, zs1⟩, hz1, hP⟩ := Option.bind_eq_some_iff.1 hP
        obtain ⟨⟨o1, oa1, os1⟩, ho1, hP⟩ := Option.bind_eq_some_iff.1 hP
        simp only [] at hx1 hy1 hz1 ho1 hP
        have HX1 := Aside0.mk hx1; have HY1 := Aside0.mk hy1; have HZ1 := Aside0.mk hz1; have HO1 := Aside0.mk ho1; have HP3 := Aside0.mk hP
        clear hx1 hy1 hz1 ho1 hP HP2
        go_wp2_with fail
        refine (spec_l01Cur_pick.calls g s0_0 a s 256 x1 xa1 xs1 w0 _ PX.out.1 PX.out.2.1 HX1.out).mono ?_
        rintro e_ w_ ⟨rfl, hi_, hb_, hk_⟩
        have R_ := Aside0.mk (rowPick PX.out.1 HV6.out hk_); clear HV6; have HV6 := R_; clear R_
        have PX_ := Aside0.mk (PX.out.pick hi_ hb_ hk_); clear PX hi_ hb_ hk_; have PX := PX_; clear PX_
        go_wp2_with fail
        refine (spec_l01Cur_pick.calls g s0_0 xa1 xs1 256 y1 ya1 ys1 w0 _ PX.out.1 PX.out.2.1 HY1.out).mono ?_
        rintro e_ w_ ⟨rfl, hi_, hb_, hk_⟩
        have R_ := Aside0.mk (rowPick PX.out.1 HV6.out hk_); clear HV6; have HV6 := R_; clear R_
        have PX_ := Aside0.mk (PX.out.pick hi_ hb_ hk_); clear PX hi_ hb_ hk_; have PX := PX_; clear PX_
        go_wp2_with fail
        refine (spec_l01Cur_pick.calls g s0_0 ya1 ys1 256 z1_ za1 zs1 w0 _ PX.out.1 PX.out.2.1 HZ1.out).mono ?_
        rintro e_ w_ ⟨rfl, hi_, hb_, hk_⟩
        have R_ := Aside0.mk (rowPick PX.out.1 HV6.out hk_); clear HV6; have HV6 := R_; clear R_
        have PX_ := Aside0.mk (PX.out.pick hi_ hb_ hk_); clear PX hi_ hb_ hk_; have PX := PX_; clear PX_
        go_wp2_with (first | ((with_reducible refine gate_dst (N := 30) rfl ?_); refine Kd.R_lit (w0 := _) (Kd.int .i64) w.heap.size 3 ?hg (N := 30) ?hd (xs := [x1, y1, z1_]) (inner := [.int .i64 (x1), .int .i64 (y1), .int .i64 (z1_)]) (ok := fun _ => True) (okp := fun _ => False) ?hr ?hp (fun _ hk => hk.elim) trivial (Below.mono (Below.refl _ _) PX.out.2.2.1.1) PX.out.2.2.1.1 (by simp) ?_; (case hd => rfl); (case hg => rfl); (case hr => first | (go_simp; done) | (go_simp; rfl)); (case hp => exact (Reps.one (show Kd.M (Kd.int .i64) _ _ _ (x1) [.int .i64 (x1)] from rfl) (Reps.one (show Kd.M (Kd.int .i64) _ _ _ (y1) [.int .i64 (y1)] from rfl) (Reps.one (show Kd.M (Kd.int .i64) _ _ _ (z1_) [.int .i64 (z1_)] from rfl) (Reps.none _ _))))); intro vb wb ho hb hg_ hnew_; have HL := Aside0.mk ho; have HGL := Aside0.mk hg_; clear ho hb hg_ hnew_))
        have R_ := Aside0.mk (Kd.R_grown2 HV6.out rfl HGL.out (by simp)); clear HV6; have HV6 := R_; clear R_
        have PX_ := Aside0.mk (PX.out.lit HGL.out); clear PX HGL; have PX := PX_; clear PX_
        refine (spec_l01Cur_once.calls g s0_0 za1 zs1 2 o1 oa1 os1 w0 _ PX.out.1 PX.out.2.1 HO1.out).mono ?_
        rintro e_ w_ ⟨rfl, hi_, hb_, hk_⟩
        have R_ := Aside0.mk (rowPick PX.out.1 HV6.out hk_); clear HV6; have HV6 := R_; clear R_
        have R_ := Aside0.mk (rowPick PX.out.1 HL.out hk_); clear HL; have HL := R_; clear R_
        have PX_ := Aside0.mk (PX.out.pick hi_ hb_ hk_); clear PX hi_ hb_ hk_; have PX := PX_; clear PX_
        cases o1 with
        | false =>
          obtain ⟨A8, c8, e8⟩ := Kd.R_slice HL.out
          rw [show [x1, y1, z1_].length = 3 from rfl] at e8
          subst e8
          have hP := HP3.out
          rw [if_neg (by decide)] at hP
          replace HP3 := Aside0.mk hP
          clear hP
          have HMM := Aside0.mk (rowM HL.out PX.out.2.2.2)
          go_wp2_with (first | ((with_reducible refine gate_builtin (b := .append) (xs := #[.tmp 46, .tmp 48]) rfl ?_); at_builtin; go_loud (refine Kd.R_append (Kd.slice 3 (Kd.int .i64)) (w0 := _) w.heap.size rfl (.tmp 46) (.tmp 48) 24 25 (.slice none 0 0) 24 rfl Try.underlying24 info25 rfl (by decide) (by omega) u5 out [x1, y1, z1_] [.slice A8 3 c8] (fun _ => True) (fun k => some k = Value.ownBlock (.slice A8 3 c8)) rfl rfl HMM.out.1 HMM.out.2 (fun _ _ => trivial) PX.out.2.2.2 (Below.mono (Below.refl _ _) PX.out.2.2.1.1) PX.out.2.2.1.1 (by omega) ?_; intro v49 w6 ho hb hg hat); have HR6 := Aside0.mk ho; have HG6 := Aside0.mk hg; clear ho hb hg hat))
          go_roundg (n + 1)
          case rel => exact ⟨n, out ++ [[x1, y1, z1_]], oa1, os1, by go_num, by omega, ⟨PX.out.push HW.out HG6.out HR6.out⟩, ⟨rowPush HV6.out PX.out.2.2.2 HG6.out⟩, HP3, by simp; omega, rfl⟩
          case measure => simp
        | true =>
          obtain ⟨A6, c6, e6⟩ := Kd.R_slice HV6.out
          rw [show [x, y, z].length = 3 from rfl] at e6
          subst e6
          obtain ⟨g6, rfl⟩ : ∃ g6, A6 = some ⟨g6, 0, none⟩ := by
            cases A6 with
            | none => exact absurd (Kd.R_reads' HV6.out).2.2.2.2 (by intro h; obtain ⟨ad, e, _⟩ := h (by simp); cases e)
            | some ad => obtain ⟨g6, rfl⟩ := Kd.R_head HV6.out; exact ⟨g6, rfl⟩
          obtain ⟨k0, k1, k2⟩ := cells3 HV6.out
          have hP := HP3.out
          rw [if_pos rfl, show ((n + 1 : Nat) : Int) = (n : Int) + 1 by omega] at hP
          replace HP3 := Aside0.mk hP
          clear hP HL
          go_upto_region 8 with (fail)
          go_region
          have hgr := World.grownBy_alloc w_ (Obj.cells #[.int .i64 x, .int .i64 y, .int .i64 ((z + ((n : Int) + 1)) % 256)] 3) none
          have HL := Aside0.mk (Kd.R_drew (lit3_R w_ w.heap.size x y ((z + ((n : Int) + 1)) % 256) PX.out.2.2.1.1))
          have R_ := Aside0.mk (Kd.R_drew (Kd.R_grown2 HV6.out rfl hgr (by simp))); clear HV6; have HV6 := R_; clear R_
          have PX_ := Aside0.mk (PX.out.lit hgr); clear PX; have PX := PX_; clear PX_
          replace PX := Aside0.mk (show PxK w0 w (w_.alloc (Obj.cells #[.int .i64 x, .int .i64 y, .int .i64 ((z + ((n : Int) + 1)) % 256)] 3)).drew g s0_0 oa1 os1 u5 out from ⟨PX.out.1.drew, below_drew PX.out.2.1, PX.out.2.2.1, Kd.R_drew PX.out.2.2.2⟩)
          generalize w_.heap.size = g8 at HL ⊢
          generalize (w_.alloc (Obj.cells #[.int .i64 x, .int .i64 y, .int .i64 ((z + ((n : Int) + 1)) % 256)] 3)).drew = w8 at HL HV6 PX ⊢
          clear hgr k0 k1 k2
          have HMM := Aside0.mk (rowM HL.out PX.out.2.2.2)
          go_wp2_with (first | ((with_reducible refine gate_builtin (b := .append) (xs := #[.tmp 46, .tmp 48]) rfl ?_); at_builtin; go_loud (refine Kd.R_append (Kd.slice 3 (Kd.int .i64)) (w0 := _) w.heap.size rfl (.tmp 46) (.tmp 48) 24 25 (.slice none 0 0) 24 rfl Try.underlying24 info25 rfl (by decide) (by omega) u5 out [x, y, (z + ((n : Int) + 1)) % 256] [.slice (some ⟨g8, 0, none⟩) 3 3] (fun _ => True) (fun k => some k = Value.ownBlock (.slice (some ⟨g8, 0, none⟩) 3 3)) rfl rfl HMM.out.1 HMM.out.2 (fun _ _ => trivial) PX.out.2.2.2 (Below.mono (Below.refl _ _) PX.out.2.2.1.1) PX.out.2.2.1.1 (by omega) ?_; intro v49 w6 ho hb hg hat); have HR6 := Aside0.mk ho; have HG6 := Aside0.mk hg; clear ho hb hg hat))
          go_roundg (n + 1)
          case rel => exact ⟨n, out ++ [[x, y, (z + ((n : Int) + 1)) % 256]], oa1, os1, by go_num, by omega, ⟨PX.out.push HW.out HG6.out HR6.out⟩, ⟨rowPush HV6.out PX.out.2.2.2 HG6.out⟩, HP3, by simp; omega, rfl⟩
          case measure => simp
  · cases h
theorem pickLt (c : List Int) (hc : ∀ x ∈ c, 0 ≤ x ∧ x ≤ 255) (hl : c.length ≤ 1048576) (a s n : Int) (hn : 2 ≤ n) (ha : 0 ≤ a) (ha2 : a ≤ 1000000000000) (hs0 : 0 ≤ s) (hs1 : s ≤ 65536) :
    ∃ x a' s', spec_l01Cur_pick.f c a s n = some (x, a', s') ∧ 0 ≤ x ∧ x < n ∧ a ≤ a' ∧ a' ≤ a + 2 ∧ 0 ≤ s' ∧ s' ≤ 65536 := by
  obtain ⟨x, a', s', e, h1, h2, h3⟩ := spec_l01Cur_pick.val c hc hl a s n ha ha2 hs0 hs1
  exact ⟨x, a', s', e, h1, by omega, h3⟩
def rowsOk (p : List (List Int)) : Prop := ∀ r ∈ p, r.length ≤ 3 ∧ ∀ x ∈ r, -9223372036854775808 ≤ x ∧ x ≤ 9223372036854775807
theorem rowsOk.push {p : List (List Int)} {r : List Int} (h : rowsOk p) (hr : r.length ≤ 3) (hx : ∀ x ∈ r, -9223372036854775808 ≤ x ∧ x ≤ 9223372036854775807) : rowsOk (p ++ [r]) := by
  intro q hq
  rcases List.mem_append.1 hq with hq | hq
  · exact h q hq
  · rw [List.mem_singleton.1 hq]
    exact ⟨hr, hx⟩
theorem pxLoop.val (c : List Int) (hc : ∀ x ∈ c, 0 ≤ x ∧ x ≤ 255) (hl : c.length ≤ 1048576) (b0 b1 b2 : Int) (h0 : 0 ≤ b0 ∧ b0 < 256) (h1 : 0 ≤ b1 ∧ b1 < 256) : ∀ (n : Nat) (out : List (List Int)) (a s : Int), 0 ≤ a → a + 8 * n ≤ 1000000000000 → 0 ≤ s → s ≤ 65536 → rowsOk out →
    ∃ p a' s', pxLoop c b0 b1 b2 n out a s = some (p, a', s') ∧ a ≤ a' ∧ a' ≤ a + 8 * n ∧ 0 ≤ s' ∧ s' ≤ 65536 ∧ p.length = out.length + n ∧ rowsOk p := by
  intro n
  induction n with
  | zero =>
    intro out a s ha ha2 hs0 hs1 hr
    exact ⟨out, a, s, rfl, by omega, by omega, hs0, hs1, rfl, hr⟩
  | succ n ih =>
    intro out a s ha ha2 hs0 hs1 hr
    obtain ⟨x, xa, xs, ex, x1, x2, x3, x4, x5, x6⟩ := pickLt c hc hl a s 256 (by decide) ha (by omega) hs0 hs1
    obtain ⟨y, ya, ys, ey, y1, y2, y3, y4, y5, y6⟩ := pickLt c hc hl xa xs 256 (by decide) (by omega) (by omega) x5 x6
    obtain ⟨z, za, zs, ez, z1, z2, z3, z4, z5, z6⟩ := pickLt c hc hl ya ys 256 (by decide) (by omega) (by omega) y5 y6
    obtain ⟨o, oa, os, eo, o3, o4, o5, o6⟩ := spec_l01Cur_once.val c hc hl za zs 2 (by omega) (by omega) z5 z6
    have hx : x < 256 := by omega
    have hy : y < 256 := by omega
    have hz : z < 256 := by omega
    have hm : 0 ≤ (b2 + ((n + 1 : Nat) : Int)) % 256 := Int.emod_nonneg _ (by omega)
    have hm2 : (b2 + ((n + 1 : Nat) : Int)) % 256 < 256 := Int.emod_lt_of_pos _ (by omega)
    obtain ⟨p, a', s', e, q1, q2, q3, q4, q5, q6⟩ := ih (out ++ [if o = true then [b0, b1, (b2 + ((n + 1 : Nat) : Int)) % 256] else [x, y, z]]) oa os (by omega) (by omega) o5 o6 (hr.push (by split <;> simp) (by
      split
      · intro v hv
        simp only [List.mem_cons, List.not_mem_nil, or_false] at hv
        rcases hv with rfl | rfl | rfl <;> omega
      · intro v hv
        simp only [List.mem_cons, List.not_mem_nil, or_false] at hv
        rcases hv with rfl | rfl | rfl <;> omega))
    refine ⟨p, a', s', ?_, by omega, by omega, q3, q4, by rw [q5]; simp; omega, q6⟩
    unfold pxLoop
    rw [ex]; simp only [Option.bind_some]
    rw [ey]; simp only [Option.bind_some]
    rw [ez]; simp only [Option.bind_some]
    rw [eo]; simp only [Option.bind_some]
    exact e
theorem pxFill.val (c : List Int) (hc : ∀ x ∈ c, 0 ≤ x ∧ x ≤ 255) (hl : c.length ≤ 1048576) (b : List Int) (hb : b.length ≤ 3) (hb2 : ∀ x ∈ b, -9223372036854775808 ≤ x ∧ x ≤ 9223372036854775807) : ∀ (n : Nat) (out : List (List Int)) (a s : Int), 0 ≤ a → a + 2 * n ≤ 1000000000000 → 0 ≤ s → s ≤ 65536 → rowsOk out → out.length ≤ 4097 → 4098 ≤ out.length + n →
    ∃ p a' s', pxFill c b n out a s = some (p, a', s') ∧ a ≤ a' ∧ a' ≤ a + 2 * n ∧ 0 ≤ s' ∧ s' ≤ 65536 ∧ p.length ≤ 4097 ∧ rowsOk p := by
  intro n
  induction n with
  | zero => intro out a s _ _ _ _ _ h1 h2; omega
  | succ n ih =>
    intro out a s ha ha2 hs0 hs1 hr h1 h2
    obtain ⟨x, xa, xs, ex, x1, x2, x3, x4, x5, x6⟩ := pickLt c hc hl a s 2 (by decide) ha (by omega) hs0 hs1
    unfold pxFill
    rw [ex]
    simp only [Option.bind_some]
    rw [if_pos ⟨x1, by omega⟩]
    by_cases hlt : (out.length : Int) < 4096 + x
    · rw [if_pos hlt]
      obtain ⟨p, a', s', e, q1, q2, q3, q4, q5, q6⟩ := ih (out ++ [b]) xa xs (by omega) (by omega) x5 x6 (hr.push hb hb2) (by simp; omega) (by simp; omega)
      exact ⟨p, a', s', e, by omega, by omega, q3, q4, q5, q6⟩
    · rw [if_neg hlt]
      exact ⟨out, xa, xs, rfl, by omega, by omega, x5, x6, h1, hr⟩
theorem pxTail.val (c : List Int) (hc : ∀ x ∈ c, 0 ≤ x ∧ x ≤ 255) (hl : c.length ≤ 1048576) (x y z : Int) (hx : 0 ≤ x ∧ x < 256) (hy : 0 ≤ y ∧ y < 256) (hz : 0 ≤ z ∧ z < 256) (p : List (List Int)) (hp : p.length ≤ 60) (p8 : rowsOk p) (F : Nat) (hF : F = 4098) (oa os : Int) (ha : 0 ≤ oa) (ha2 : oa ≤ 2000000000) (hs0 : 0 ≤ os) (hs1 : os ≤ 65536) :
    ∃ r a' s', ((spec_l01Cur_pick.f c oa os 3).bind fun q => if q.1 = 0 then ((spec_l01Cur_odd.f c q.2.1 q.2.2).bind fun d => some (p ++ [[d.1, 1, 2]], d.2.1, d.2.2)) else if q.1 = 1 then some (p ++ [[1, 2]], q.2.1, q.2.2) else pxFill c [x, y, z] F p q.2.1 q.2.2) = some (r, a', s') ∧ oa ≤ a' ∧ a' ≤ oa + 9000 ∧ 0 ≤ s' ∧ s' ≤ 65536 ∧ r.length ≤ 4097 ∧ rowsOk r := by
  obtain ⟨q, qa, qs, eq, q1, q2, q3, q4, q5, q6⟩ := pickLt c hc hl oa os 3 (by decide) ha (by omega) hs0 hs1
  rw [eq]; simp only [Option.bind_some]
  by_cases hq0 : q = 0
  · rw [if_pos hq0]
    obtain ⟨d, da, ds, ed, d1, d2, d3, d4, d5, d6⟩ := spec_l01Cur_odd.val c hc hl qa qs (by omega) (by omega) q5 q6
    rw [ed]; simp only [Option.bind_some]
    exact ⟨_, da, ds, rfl, by omega, by omega, d5, d6, by simp; omega, p8.push (by simp) (by
      intro v hv
      simp only [List.mem_cons, List.not_mem_nil, or_false] at hv
      rcases hv with rfl | rfl | rfl <;> omega)⟩
  · rw [if_neg hq0]
    by_cases hq1 : q = 1
    · rw [if_pos hq1]
      exact ⟨_, qa, qs, rfl, by omega, by omega, q5, q6, by simp; omega, p8.push (by simp) (by
        intro v hv
        simp only [List.mem_cons, List.not_mem_nil, or_false] at hv
        rcases hv with rfl | rfl <;> omega)⟩
    · rw [if_neg hq1]
      obtain ⟨r, ra, rs, er, r1, r2, r3, r4, r5, r6⟩ := pxFill.val c hc hl [x, y, z] (by simp) (by
        intro v hv
        simp only [List.mem_cons, List.not_mem_nil, or_false] at hv
        rcases hv with rfl | rfl | rfl <;> omega) F p qa qs (by omega) (by omega) q5 q6 p8 (by omega) (by omega)
      exact ⟨r, ra, rs, er, by omega, by omega, r3, r4, r5, r6⟩
theorem drawPx.told (c : List Int) (a s n x xa xs y ya ys z za zs m ma ms : Int) (p : List (List Int)) (pa ps : Int) (o : Bool) (oa os : Int) (R : Option (List (List Int) × Int × Int)) (ex : spec_l01Cur_pick.f c a s 256 = some (x, xa, xs)) (ey : spec_l01Cur_pick.f c xa xs 256 = some (y, ya, ys)) (ez : spec_l01Cur_pick.f c ya ys 256 = some (z, za, zs)) (em : spec_l01Cur_size.f c za zs 30 = some (m, ma, ms)) (ep : pxLoop c x y z (2 * m).toNat [] ma ms = some (p, pa, ps)) (eo : spec_l01Cur_once.f c pa ps n = some (o, oa, os))
    (r : List (List Int)) (ra rs : Int)
    (et : (if o = true then ((spec_l01Cur_pick.f c oa os 3).bind fun q => if q.1 = 0 then ((spec_l01Cur_odd.f c q.2.1 q.2.2).bind fun d => some (p ++ [[d.1, 1, 2]], d.2.1, d.2.2)) else if q.1 = 1 then some (p ++ [[1, 2]], q.2.1, q.2.2) else pxFill c [x, y, z] 4098 p q.2.1 q.2.2) else some (p, oa, os)) = some (r, ra, rs)) : drawPx c a s n = some (r, ra, rs) := by
  unfold drawPx
  refine Option.bind_eq_some_iff.2 ⟨_, ex, ?_⟩
  refine Option.bind_eq_some_iff.2 ⟨_, ey, ?_⟩
  refine Option.bind_eq_some_iff.2 ⟨_, ez, ?_⟩
  refine Option.bind_eq_some_iff.2 ⟨_, em, ?_⟩
  refine Option.bind_eq_some_iff.2 ⟨_, ep, ?_⟩
  refine Option.bind_eq_some_iff.2 ⟨_, eo, ?_⟩
  exact et
theorem spec_l21DrawPixels.val (c : List Int) (hc : ∀ x ∈ c, 0 ≤ x ∧ x ≤ 255) (hl : c.length ≤ 1048576) (a s n : Int) (ha : 0 ≤ a) (ha2 : a ≤ 1000000000) (hs0 : 0 ≤ s) (hs1 : s ≤ 65536) :
    ∃ p a' s', spec_l21DrawPixels.f c a s n = some (p, a', s') ∧ a ≤ a' ∧ a' ≤ a + 10000 ∧ 0 ≤ s' ∧ s' ≤ 65536 ∧ p.length ≤ 4097 ∧ rowsOk p := by
  obtain ⟨x, xa, xs, ex, x1, x2, x3, x4, x5, x6⟩ := pickLt c hc hl a s 256 (by decide) ha (by omega) hs0 hs1
  obtain ⟨y, ya, ys, ey, y1, y2, y3, y4, y5, y6⟩ := pickLt c hc hl xa xs 256 (by decide) (by omega) (by omega) x5 x6
  obtain ⟨z, za, zs, ez, z1, z2, z3, z4, z5, z6⟩ := pickLt c hc hl ya ys 256 (by decide) (by omega) (by omega) y5 y6
  obtain ⟨m, ma, ms, em, m1, m2, m3, m4, m5, m6⟩ := spec_l01Cur_size.val c hc hl za zs 30 (by omega) (by omega) z5 z6 (by omega) (by omega)
  have hm : (2 * m).toNat ≤ 60 := by omega
  obtain ⟨p, pa, ps, ep, p3, p4, p5, p6, p7, p8⟩ := pxLoop.val c hc hl x y z ⟨x1, by omega⟩ ⟨y1, by omega⟩ (2 * m).toNat [] ma ms (by omega) (by omega) m5 m6 (fun r hr => absurd hr (by simp))
  obtain ⟨o, oa, os, eo, o3, o4, o5, o6⟩ := spec_l01Cur_once.val c hc hl pa ps n (by omega) (by omega) p5 p6
  rw [List.length_nil, Nat.zero_add] at p7
  have L1 : a ≤ oa := by omega
  have L2 : oa ≤ a + 800 := by omega
  have L3 : p.length ≤ 60 := by omega
  clear x3 x4 x5 x6 y3 y4 y5 y6 z3 z4 z5 z6 m1 m2 m3 m4 m5 m6 p3 p4 p5 p6 p7 o3 o4 hm
  have et : ∃ r ra rs, (if o = true then ((spec_l01Cur_pick.f c oa os 3).bind fun q => if q.1 = 0 then ((spec_l01Cur_odd.f c q.2.1 q.2.2).bind fun d => some (p ++ [[d.1, 1, 2]], d.2.1, d.2.2)) else if q.1 = 1 then some (p ++ [[1, 2]], q.2.1, q.2.2) else pxFill c [x, y, z] 4098 p q.2.1 q.2.2) else some (p, oa, os)) = some (r, ra, rs) ∧ oa ≤ ra ∧ ra ≤ oa + 9000 ∧ 0 ≤ rs ∧ rs ≤ 65536 ∧ r.length ≤ 4097 ∧ rowsOk r := by
    cases o with
    | false => exact ⟨p, oa, os, if_neg (by decide), by omega, by omega, o5, o6, by omega, p8⟩
    | true =>
      rw [if_pos rfl]
      exact pxTail.val c hc hl x y z ⟨x1, x2⟩ ⟨y1, y2⟩ ⟨z1, z2⟩ p L3 p8 4098 rfl oa os (by omega) (by omega) o5 o6
  obtain ⟨r, ra, rs, et, t1, t2, t3, t4, t5, t6⟩ := et
  refine ⟨r, ra, rs, ?_, by omega, by omega, t3, t4, t5, t6⟩
  unfold spec_l21DrawPixels.f
  rw [if_pos (show okCur c a s from ⟨hc, hl, ha, ha2, hs0, hs1⟩)]
  exact drawPx.told c a s n x xa xs y ya ys z za zs m ma ms p pa ps o oa os none ex ey ez em ep eo r ra rs et
end Go.Proofs.Ytopebplddfhaeaa.G
