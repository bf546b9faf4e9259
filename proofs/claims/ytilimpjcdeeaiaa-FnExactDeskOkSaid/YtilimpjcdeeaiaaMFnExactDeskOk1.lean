import Derived.Test.YtilimpjcdeeaiaaProg
import Derived.Below
import Derived.Deep.Draws
import Derived.Deep.AppendLies
import Derived.Maps.AppendAt
import Derived.OwnWalk
import Derived.Laws.BytesArg
import Derived.Laws.MakeOwn
import Derived.Laws.OwnMore
import Derived.Deep.OwnRows
import Derived.Tactics
import Derived.Lib.ConvBytes
import Derived.Laws.Slices
import Derived.WalkKit
import Derived.KernelRfl
import Derived.RowKit3
import Derived.Deep.LoopGhost
import Derived.Deep.QuietTactic
import Derived.BigQuiet
import Derived.WideLaws
import Derived.Deep.DeepCutAuto
import Derived.Deep.CutBlock
import Derived.Deep.RegionHeld3
import Derived.Laws.Rows
import Derived.Lib.AppendStr
import Derived.ArgAppend
import Derived.Laws.IdiomCopy
import Derived.OrdersHeld
import Derived.Laws.BitsLemmas
import Derived.RowKit
import Derived.Test.YtilimpjcdeeaiaaMFnExactDeskOkWWords
import Derived.Test.YtilimpjcdeeaiaaMFnExactDeskOkWLast
import Derived.Test.YtilimpjcdeeaiaaMFnExactDeskOkWTab
import Derived.Test.YtilimpjcdeeaiaaMFnExactDeskOkWFour
import Derived.Test.YtilimpjcdeeaiaaMFnExactDeskOkWQPut
import Derived.Test.YtilimpjcdeeaiaaMFnExactDeskOkWApart
import Derived.Test.YtilimpjcdeeaiaaMFnExactDeskOkWArr
import Derived.Test.YtilimpjcdeeaiaaMFnExactDeskOkWZeros
import Derived.Test.YtilimpjcdeeaiaaMFnExactDeskOkWFoot
import Derived.Test.YtilimpjcdeeaiaaMFnExactDeskOkWKept
import Derived.Test.YtilimpjcdeeaiaaMFnExactDeskOkWShare
import Derived.Test.YtilimpjcdeeaiaaMFnExactDeskOkWN
import Derived.Test.YtilimpjcdeeaiaaMFnExactDeskOkWFootNe
import Derived.Test.YtilimpjcdeeaiaaMFnExactDeskOkWAt
import Derived.Test.YtilimpjcdeeaiaaMFnExactDeskOkWEqStruct
import Derived.Test.YtilimpjcdeeaiaaMFnExactDeskOkWRepsOne
import Derived.Test.YtilimpjcdeeaiaaMFnExactDeskOkWInv
import Derived.Test.YtilimpjcdeeaiaaMFnExactDeskOkWInvWords
import Derived.Test.YtilimpjcdeeaiaaMFnExactDeskOkWGuard
import Derived.Test.YtilimpjcdeeaiaaMFnExactDeskOkWNEv
import Derived.Test.YtilimpjcdeeaiaaMFnExactDeskOkWMore
set_option linter.unusedVariables false
set_option linter.unusedSimpArgs false
namespace Go.Proofs.Ytilimpjcdeeaiaa.G
open Go.RowKit Go.Proofs.YtilimpjcdeeaiaaW.PrintWords Go.Proofs.YtilimpjcdeeaiaaW.PrintLast Go.Proofs.YtilimpjcdeeaiaaW.PrintMore
attribute [local go_sem] max2_int min2_int max_two min_two max_three min_three max_four min_four   -- for this text's walks alone
abbrev zA := @Aside0.mk
abbrev zB := @pw_below_drewN
abbrev zC := @below_alloc
abbrev zD := @blk_alloc
abbrev zE := @below_set
abbrev zF := @below_drew1
abbrev zG := @blk_drewN
abbrev zH := @blk_drew
abbrev zI := @of_decide_eq_true
abbrev zJ := @blk_frozen
abbrev zK := @blk_cell
abbrev zL := @below_size
abbrev zM := @Kd.R_drewN
abbrev zN := @Kd.R_alloc
abbrev zO := @Kd.R_drew
abbrev zP := @Kd.R_mono
abbrev zQ := @List.length_take
abbrev zR := @List.length_drop
abbrev zS := @Option.bind_some
abbrev zT := @decide_eq_true
abbrev zU := @List.map_toArray
abbrev zV := @List.map_cons
abbrev zW := @List.map_nil
abbrev zX := @Kd.R_types
abbrev zY := @Kd.S_alloc
abbrev zZ := @Kd.S_drewN
abbrev yA := @Kd.S_drew
abbrev yB := @Kd.S_mono
abbrev yC := @Kd.S_far
abbrev yD := @World.size_alloc
abbrev yE := @Kd.R_reads'
abbrev yF := @Kd.C_drewN
abbrev yG := @Kd.C_drew
abbrev yH := @Kd.C_alloc
def errW : Option Int → Value
 | none => .nilIface
 | some c => .iface 0 (.int .i64 c)
theorem errW_none : errW none = .nilIface := rfl
theorem errW_some (c : Int) : errW (some c) = .iface 0 (.int .i64 c) := rfl
theorem info3 : (Try.prog.info? 3).map (fun i => (i.zero, i.size, i.bytes)) = some (some (.int .i64 0), 1, 8) := by kernel_rfl
theorem info5 : (Try.prog.info? 5).map (fun i => (i.zero, i.size, i.bytes)) = some (some (.int .u8 0), 1, 1) := by kernel_rfl
theorem info36 : (Try.prog.info? 36).map (fun i => (i.zero, i.size, i.bytes)) = some (some (.slice none 0 0), 1, 24) := by kernel_rfl
theorem info177 : (Try.prog.info? 177).map (fun i => (i.zero, i.size, i.bytes)) = some (some (.agg #[(.int .i64 0), (.slice none 0 0)]), 2, 32) := by kernel_rfl
-- the values' own types
structure S102 where
 f0 : Int
 f1 : Int
 f2 : Int
 f3 : Int
def rd_L3 (xs : List (List Int)) (i : Int) : (List Int) := xs.getD i.toNat ([] : List Int)
theorem at_L3 {w : World} {A : Option Addr} {n : Nat} {xs : List (List Int)} (h : Kd.C (Kd.slice 3 (Kd.int .i64)) w A n xs) (i : Int) (h0 : 0 ≤ i) (h1 : i < n) : ∃ ad A0 c0, A = some ad ∧ w.cell? (ad.add i.toNat) = some (.slice A0 (rd_L3 xs i).length c0) ∧ (rd_L3 xs i).length ≤ c0 ∧ (Kd.int .i64).C w A0 (rd_L3 xs i).length (rd_L3 xs i) := by
 obtain ⟨ad, c, e, _, hK, hc0⟩ := Kd.C_get h ([] : List Int) i h0 h1
 have hc : ∀ j u, c[j]? = some u → w.cell? (ad.add (i.toNat * 1 + j)) = some u := hc0
 obtain ⟨A0, c0, rfl, l0, g0⟩ := hK
 exact ⟨ad, A0, c0, e, by have hq := hc 0 _ rfl; rwa [Nat.mul_one, Nat.add_zero] at hq, l0, g0⟩
structure S38 where
 f0 : (List Int)
 f1 : Int
 f2 : Int
 f3 : Int
 f4 : Int
structure S26 where
 f0 : Int
 f1 : Int
 f2 : Int
 f3 : Int
 f4 : (List S102)
structure S153 where
 f0 : Int
 f1 : Int
 f2 : Int
 f3 : Int
structure S177 where
 f0 : Int
 f1 : (List Int)
def z177 : S177 := ⟨(0 : Int), ([] : List Int)⟩
def k177 : Kd S177 := Kd.iso (Kd.pair (Kd.int .i64) (Kd.slice 5 (Kd.int .u8))) (fun x : S177 => (x.f0, x.f1))
theorem k177_open {w : World} {x : S177} {cs : List Value} (h : k177.K w x cs) : ∃ A1 c1, cs = [.int .i64 x.f0, .slice A1 x.f1.length c1] ∧ x.f1.length ≤ c1 ∧ (Kd.int .u8).C w A1 x.f1.length x.f1 := by
 obtain ⟨_, _, rfl, rfl, ⟨A1, c1, rfl, l1, g1⟩⟩ := h
 exact ⟨A1, c1, rfl, l1, g1⟩
theorem k177_mkM (w : World) (base : Nat) (ok : Nat → Prop) (x : S177) {v1 : Value} (g1 : (Kd.int .u8).R 5 w base ok v1 x.f1) : k177.M w base ok x [.int .i64 x.f0, v1] := ⟨[.int .i64 x.f0], [v1], rfl, rfl, ⟨v1, rfl, g1⟩⟩
def rd_T177 (xs : List S177) (i : Int) : S177 := xs.getD i.toNat z177
theorem at_T177 {w : World} {A : Option Addr} {n : Nat} {xs : List S177} (h : Kd.C k177 w A n xs) (i : Int) (h0 : 0 ≤ i) (h1 : i < n) : ∃ ad A1 c1, A = some ad ∧ w.cell? (ad.add (i.toNat * 2)) = some (.int .i64 (rd_T177 xs i).f0) ∧ w.cell? ⟨(ad.add (i.toNat * 2)).block, (ad.add (i.toNat * 2)).off + 1, none⟩ = some (.slice A1 (rd_T177 xs i).f1.length c1) ∧ (rd_T177 xs i).f1.length ≤ c1 ∧ (Kd.int .u8).C w A1 (rd_T177 xs i).f1.length (rd_T177 xs i).f1 := by
 obtain ⟨ad, c, e, _, hK, hc0⟩ := Kd.C_get h z177 i h0 h1
 have hc : ∀ j u, c[j]? = some u → w.cell? (ad.add (i.toNat * 2 + j)) = some u := hc0
 obtain ⟨A1, c1, rfl, l1, g1⟩ := k177_open hK
 exact ⟨ad, A1, c1, e, hc 0 _ rfl, by rw [← add_field _ _ 1 (by omega)]; exact hc 1 _ rfl, l1, g1⟩
structure S74 where
 f0 : Int
 f1 : Int
structure S76 where
 f0 : (List Int)
 f1 : Int
 f2 : Bool
 f3 : S74
structure S82 where
 f0 : Int
 f1 : Int
structure S84 where
 f0 : (List Int)
 f1 : Int
 f2 : Bool
 f3 : S82
end Go.Proofs.Ytilimpjcdeeaiaa.G


namespace Go.Proofs.Ytilimpjcdeeaiaa.G
open Go.RowKit Go.Proofs.YtilimpjcdeeaiaaW.PrintWords Go.Proofs.YtilimpjcdeeaiaaW.PrintLast Go.Proofs.YtilimpjcdeeaiaaW.PrintMore
attribute [local go_sem] max2_int min2_int max_two min_two max_three min_three max_four min_four   -- for this text's walks alone
theorem S_put1 {α : Type} {d : Kd α} {e g n cap base : Nat} {W w1 : World} {xs : List α} {u : Value} {x' : α} (hd : d.sz = 1) (h : Kd.S d e W base (fun _ => True) (.slice (some ⟨g, 0, none⟩) n cap) xs) (hb : Below W.heap.size W w1) (z : α) (i : Int) (h0 : 0 ≤ i) (h1 : i < n)
  (hM : d.M w1 base (fun k => W.heap.size ≤ k) x' [u]) : Kd.S d e (w1.setCell ⟨g, i.toNat, none⟩ u) base (fun _ => True) (.slice (some ⟨g, 0, none⟩) n cap) (xs.set i.toNat x') := by
 have hg : g < W.heap.size := Kd.S_lt h g rfl
 have h2 : Kd.S d e w1 base (fun k => True ∧ ¬ W.heap.size ≤ k) (.slice (some ⟨g, 0, none⟩) n cap) xs := yB (Kd.S_old h hb) (fun k hk => ⟨trivial, Nat.not_le.2 hk.2⟩)
 obtain ⟨oki, c, hcl, hM0, hcc, hfr, hoki, hH⟩ := Kd.S_elem h2 z i h0 h1
 obtain ⟨q, rfl⟩ := List.length_eq_one_iff.1 (hcl.trans hd)
 have := Kd.S_seg (okg := fun k => W.heap.size ≤ k) (okp := fun k => W.heap.size ≤ k) hH h0 h1 (seg := [u]) (j := 0) (by simp [hd]) (x' := x') (by
  simpa using hM) (fun k hk => .inr hk) (fun k hk => ⟨trivial, by intro he; subst he; omega⟩)
 have h3 := this.1
 rw [hd, Nat.mul_one, Nat.add_zero] at h3
 exact h3
theorem S_cell {α : Type} {d : Kd α} {e g n cap base : Nat} {W : World} {ok : Nat → Prop} {xs : List α} (hd : d.sz = 1) (h : Kd.S d e W base ok (.slice (some ⟨g, 0, none⟩) n cap) xs) (z : α) (i : Int) (h0 : 0 ≤ i) (h1 : i < n) :
  (∃ u, W.cell? ⟨g, i.toNat, none⟩ = some u) ∧ W.frozen? ⟨g, i.toNat, none⟩ = false := by
 obtain ⟨oki, c, hcl, hM0, hcc, hfr, hoki, hH⟩ := Kd.S_elem h z i h0 h1
 rw [hd] at hcc hfr hcl
 obtain ⟨u, rfl⟩ := List.length_eq_one_iff.1 hcl
 exact ⟨⟨u, by have := hcc 0 u rfl; rwa [Nat.mul_one, Nat.add_zero] at this⟩, by have := hfr 0; rwa [Nat.mul_one, Nat.add_zero] at this⟩
theorem fill_set {α : Type} (l : List α) (z : α) (i : Nat) (hi : i < l.length) : (l.take i ++ List.replicate (l.length - i) z).set i l[i] = l.take (i + 1) ++ List.replicate (l.length - (i + 1)) z := by
 rw [show l.length - i = (l.length - (i + 1)) + 1 by omega, List.replicate_succ, List.take_succ_eq_append_getElem hi, List.append_assoc]
 rw [List.set_append_right _ _ (by simp; omega)]
 simp [Nat.min_eq_left (Nat.le_of_lt hi)]
theorem Ev.ip {α : Type} {c : Prop} [Decidable c] {g f : Nat → Option α} {r : α} (hc : c) (h : Ev g r) : Ev (fun n => if c then g n else f n) r := by
 obtain ⟨K, h⟩ := h
 exact ⟨K, fun n hn => by show (if c then g n else f n) = some r; rw [if_pos hc]; exact h n hn⟩
theorem Ev.ng {α : Type} {c : Prop} [Decidable c] {g f : Nat → Option α} {r : α} (hc : ¬ c) (h : Ev f r) : Ev (fun n => if c then g n else f n) r := by
 obtain ⟨K, h⟩ := h
 exact ⟨K, fun n hn => by show (if c then g n else f n) = some r; rw [if_neg hc]; exact h n hn⟩
theorem Ev.c {α : Type} {x : Option α} {r : α} (h : x = some r) : Ev (fun _ => x) r := ⟨0, fun _ _ => h⟩
theorem Ev.eq {α : Type} {g : Nat → Option α} {r r' : α} (h : Ev g r) (e : r = r') : Ev g r' := e ▸ h
theorem rd_nat (l : List Int) (i : Nat) (h : i < l.length) : rd l (i : Int) = l[i] := by simp [rd, h]
theorem wrap_succ (i : Nat) (h : i < 9223372036854775807) : wrap64 ((i : Int) + 1) = ((i + 1 : Nat) : Int) := by unfold wrap64; omega
theorem wrap_in (x : Int) (h1 : -9223372036854775808 ≤ x) (h2 : x ≤ 9223372036854775807) : wrap64 x = x := by unfold wrap64; omega
/-- all numbers lie between two others -/
def allW (lo hi : Int) (l : List Int) : Bool := l.all fun x => decide (lo ≤ x) && decide (x ≤ hi)
theorem wf_u8 {x : Int} (h : (Lit.int .u8 x).wf = true) : 0 ≤ x ∧ x ≤ 255 := by
 simp only [Lit.wf, Bool.and_eq_true, decide_eq_true_eq] at h
 have h1 : IntKind.u8.min = 0 := rfl
 have h2 : IntKind.u8.max = 255 := rfl
 omega
end Go.Proofs.Ytilimpjcdeeaiaa.G


namespace Go.Proofs.Ytilimpjcdeeaiaa.G
open Go.RowKit Go.Proofs.YtilimpjcdeeaiaaW.PrintWords Go.Proofs.YtilimpjcdeeaiaaW.PrintLast Go.Proofs.YtilimpjcdeeaiaaW.PrintMore
attribute [local go_sem] max2_int min2_int max_two min_two max_three min_three max_four min_four   -- for this text's walks alone
def laws_eqIntS.l0 : Nat → List Int → List Int → Int → Option (Bool)
 | 0, _, _, _ => none
 | k + 1, x0, x1, x5 => if x5 < (x0.length : Int) then (if 0 ≤ x5 then (if x5 < (x1.length : Int) then (if (rd x0 x5) = (rd x1 x5) then (laws_eqIntS.l0 k x0 x1 (wrap64 (x5 + 1))) else (some false)) else (none)) else (none)) else (some true)
def laws_eqIntS.f (k : Nat) (l0 : List Int) (l1 : List Int) : Option (Bool) := if (l0.length : Int) = (l1.length : Int) then (laws_eqIntS.l0 k l0 l1 0) else (some false)
theorem laws_eqIntS.mono_l : ∀ k, (∀ y0 y1 y2, LeO (laws_eqIntS.l0 k y0 y1 y2) (laws_eqIntS.l0 (k + 1) y0 y1 y2))
 | 0 => fun _ _ _ r h => by simp [laws_eqIntS.l0] at h
 | k + 1 => by
  have ih0 := laws_eqIntS.mono_l k
  ·intro y0 y1 y2
   unfold laws_eqIntS.l0
   repeat' first
   | (with_reducible exact ih0 _ _ _)
   | (with_reducible exact LeO.refl _)
   | (with_reducible exact LeO.none _)
   | (with_reducible refine LeO.ite ?_ ?_)
   | (with_reducible refine LeO.bind ?_ (fun _ => ?_))
   | exact ih0 _ _ _
   | exact LeO.none _
   | refine LeO.ite ?_ ?_
   | refine LeO.bind ?_ (fun _ => ?_)
theorem laws_eqIntS.mono : ∀ a0 a1 k, LeO (laws_eqIntS.f k a0 a1) (laws_eqIntS.f (k + 1) a0 a1) := by
 intro a0 a1 k
 have ih0 := laws_eqIntS.mono_l k
 unfold laws_eqIntS.f
 repeat' first
   | (with_reducible exact ih0 _ _ _)
   | (with_reducible exact LeO.refl _)
   | (with_reducible exact LeO.none _)
   | (with_reducible refine LeO.ite ?_ ?_)
   | (with_reducible refine LeO.bind ?_ (fun _ => ?_))
   | exact ih0 _ _ _
   | exact LeO.none _
   | refine LeO.ite ?_ ?_
   | refine LeO.bind ?_ (fun _ => ?_)
set_option maxHeartbeats 8000000 in
set_option maxRecDepth 100000 in
theorem laws_eqIntS.calls (k : Nat) (A0 : Option Addr) (c0 : Nat) (l0 : List Int) (A1 : Option Addr) (c1 : Nat) (l1 : List Int) (r : Bool) (w : World) (hr0 : Kd.C (Kd.int .i64) w A0 l0.length l0) (hc0 : l0.length ≤ c0) (hr1 : Kd.C (Kd.int .i64) w A1 l1.length l1) (hc1 : l1.length ≤ c1) (h : laws_eqIntS.f k l0 l1 = some r) :
  Calls Try.prog 36 #[.slice A0 l0.length c0, .slice A1 l1.length c1] w fun e w' => e = .returned (.bool r) ∧ Drawn0 w w' := by
 have HR0 := zA hr0
 have HC0 := zA hc0
 clear hr0 hc0
 have HR1 := zA hr1
 have HC1 := zA hc1
 clear hr1 hc1
 have H : (if (l0.length : Int) = (l1.length : Int) then (laws_eqIntS.l0 k l0 l1 0) else (some false)) = some r := h
 clear h
 by_cases c3 : (l0.length : Int) = (l1.length : Int)
 ·rw [if_pos c3] at H
  have c3b0 : ((l0.length : Int) == (l1.length : Int)) = true := beq_iff_eq.mpr c3
  have c3b1 : ((l0.length : Int) != (l1.length : Int)) = false := bne_eq_false_iff_eq.mpr c3
  have c3b2 : (l0.length == l1.length) = true := by first | simpa using c3 | (simp at c3 ⊢; omega)
  clear c3
  have H' := zA H
  clear H
  go_enter Try.func36, Try.ntmps36
  go_wp2
  repeat (go_quiet (fail); try go_wp2)
  go_loopg [5] k (fun kq v5 w' => ∃ (x5_1 : Int), v5 = .int .i64 x5_1 ∧ Aside0 (laws_eqIntS.l0 kq l0 l1 x5_1 = some r) ∧ Aside0 (kq ≤ k) ∧ Drawn0 w w')
  case atStart => exact ⟨(0), (by first | rfl | (simp; done) | (simp [*]; done)), H', ⟨Nat.le_refl _⟩, by repeat (first | exact Drawn0.refl _ | apply Drawn0.step)⟩
  case round =>
   clear H'
   try clear c1
   try clear p2
   try clear c3
   try clear c3b0
   try clear c3b1
   try clear c3b2
   obtain ⟨x5_1, rfl, HA, HK1, ⟨m1, rfl⟩⟩ := hrel
   cases gk with
   | zero => exact absurd HA.out (by simp [laws_eqIntS.l0])
   | succ k1 =>
    have H := HA.out
    clear HA
    simp only [laws_eqIntS.l0] at H
    by_cases c4 : x5_1 < (l0.length : Int)
    ·rw [if_pos c4] at H
     have c4b0 : decide (x5_1 < (l0.length : Int)) = true := zT c4
     clear c4
     by_cases c5 : 0 ≤ x5_1
     ·rw [if_pos c5] at H
      have c5b0 : decide (0 ≤ x5_1) = true := zT c5
      clear c5
      by_cases c6 : x5_1 < (l1.length : Int)
      ·rw [if_pos c6] at H
       have c6b0 : decide (x5_1 < (l1.length : Int)) = true := zT c6
       clear c6
       by_cases c7 : (rd l0 x5_1) = (rd l1 x5_1)
       ·rw [if_pos c7] at H
        have c7b0 : ((rd l0 x5_1) == (rd l1 x5_1)) = true := beq_iff_eq.mpr c7
        have c7b1 : ((rd l0 x5_1) != (rd l1 x5_1)) = false := bne_eq_false_iff_eq.mpr c7
        clear c7
        have H' := zA H
        clear H
        have p1040 : 0 ≤ (x5_1 : Int) := zI (by first | (with_reducible assumption) | assumption)
        have q1040 : x5_1 < (l0.length : Int) := zI (by first | (with_reducible assumption) | assumption)
        obtain ⟨ad1040, e1040, hx1040_0⟩ := Kd.at_int HR0.out x5_1 p1040 q1040
        cases e1040
        replace p1040 := eq_true p1040
        replace q1040 := eq_true q1040
        have p1041 : 0 ≤ (x5_1 : Int) := zI (by first | (with_reducible assumption) | assumption)
        have q1041 : x5_1 < (l1.length : Int) := zI (by first | (with_reducible assumption) | assumption)
        obtain ⟨ad1041, e1041, hx1041_0⟩ := Kd.at_int HR1.out x5_1 p1041 q1041
        cases e1041
        replace p1041 := eq_true p1041
        replace q1041 := eq_true q1041
        go_wp2
        repeat (go_quiet (fail); try go_wp2)
        go_roundg k1
        case measure => have := HK1.out; omega
        case rel => exact ⟨(wrap64 (x5_1 + 1)), (by first | rfl | (simp; done) | (simp [*]; done)), H', ⟨by have := HK1.out; omega⟩, by repeat (first | exact Drawn0.refl _ | apply Drawn0.step)⟩
       ·rw [if_neg c7] at H
        have c7b0 : ((rd l0 x5_1) == (rd l1 x5_1)) = false := beq_eq_false_iff_ne.mpr c7
        have c7b1 : ((rd l0 x5_1) != (rd l1 x5_1)) = true := bne_iff_ne.mpr c7
        obtain rfl := Option.some.inj H
        have p1040 : 0 ≤ (x5_1 : Int) := zI (by first | (with_reducible assumption) | assumption)
        have q1040 : x5_1 < (l0.length : Int) := zI (by first | (with_reducible assumption) | assumption)
        obtain ⟨ad1040, e1040, hx1040_0⟩ := Kd.at_int HR0.out x5_1 p1040 q1040
        cases e1040
        replace p1040 := eq_true p1040
        replace q1040 := eq_true q1040
        have p1041 : 0 ≤ (x5_1 : Int) := zI (by first | (with_reducible assumption) | assumption)
        have q1041 : x5_1 < (l1.length : Int) := zI (by first | (with_reducible assumption) | assumption)
        obtain ⟨ad1041, e1041, hx1041_0⟩ := Kd.at_int HR1.out x5_1 p1041 q1041
        cases e1041
        replace p1041 := eq_true p1041
        replace q1041 := eq_true q1041
        go_wp2
        repeat (go_quiet (fail); try go_wp2)
        go_ret
        exact ⟨by first | rfl | (simp; done) | (simp [*]; done), by repeat (first | exact Drawn0.refl _ | apply Drawn0.step)⟩
      ·rw [if_neg c6] at H
       exact absurd H (by simp)
     ·rw [if_neg c5] at H
      exact absurd H (by simp)
    ·rw [if_neg c4] at H
     have c4b0 : decide (x5_1 < (l0.length : Int)) = false := decide_eq_false c4
     clear c4
     obtain rfl := Option.some.inj H
     go_wp2
     repeat (go_quiet (fail); try go_wp2)
     go_ret
     exact ⟨by first | rfl | (simp; done) | (simp [*]; done), by repeat (first | exact Drawn0.refl _ | apply Drawn0.step)⟩
 ·rw [if_neg c3] at H
  have c3b0 : ((l0.length : Int) == (l1.length : Int)) = false := beq_eq_false_iff_ne.mpr c3
  have c3b1 : ((l0.length : Int) != (l1.length : Int)) = true := bne_iff_ne.mpr c3
  have c3b2 : (l0.length == l1.length) = false := by first | simpa using c3 | (simp at c3 ⊢; omega)
  obtain rfl := Option.some.inj H
  go_enter Try.func36, Try.ntmps36
  go_wp2
  repeat (go_quiet (fail); try go_wp2)
  go_ret
  exact ⟨by first | rfl | (simp; done) | (simp [*]; done), by repeat (first | exact Drawn0.refl _ | apply Drawn0.step)⟩
theorem laws_eqIntS.ev (a b : List Int) (ha : a.length ≤ 4611686018427387904) : Ev (fun k => laws_eqIntS.f k a b) (a == b) := by
 unfold laws_eqIntS.f
 by_cases hl : a.length = b.length
 ·refine Ev.ip (by omega) ?_
  have key : ∀ d i : Nat, a.length - i = d → i ≤ a.length → Ev (fun k => laws_eqIntS.l0 k a b (i : Int)) (a.drop i == b.drop i) := by
   intro d
   induction d with
   | zero =>
    intro i hd hi
    refine Ev.step (fun _ => by rw [laws_eqIntS.l0]) ?_
    refine Ev.ng (by omega) (Ev.eq (Ev.now _) ?_)
    rw [List.drop_of_length_le (by omega), List.drop_of_length_le (by omega)]; rfl
   | succ d ih =>
    intro i hd hi
    have h1 : i < a.length := by omega
    have h2 : i < b.length := by omega
    refine Ev.step (fun _ => by rw [laws_eqIntS.l0]) ?_
    refine Ev.ip (by omega) (Ev.ip (by omega) (Ev.ip (by omega) ?_))
    rw [rd_nat a i h1, rd_nat b i h2, wrap_succ i (by omega)]
    have e : (a.drop i == b.drop i) = (a[i] == b[i] && a.drop (i + 1) == b.drop (i + 1)) := by
     rw [List.drop_eq_getElem_cons h1, List.drop_eq_getElem_cons h2]; rfl
    rw [e]
    by_cases h : a[i] = b[i]
    ·exact Ev.ip h (Ev.eq (ih (i + 1) (by omega) (by omega)) (by simp [h]))
    ·exact Ev.ng h (Ev.eq (Ev.now _) (by simp [h]))
  exact key _ 0 rfl (by omega)
 ·refine Ev.ng (by omega) (Ev.eq (Ev.now _) ?_)
  symm
  rw [beq_eq_false_iff_ne]
  intro h; exact hl (by rw [h])
theorem laws_eqIntS.T (a : List Int) (ha : a.length ≤ 1048576) : Ev (fun k => laws_eqIntS.f k a a) true := Ev.eq (laws_eqIntS.ev a a (by omega)) (by simp)
end Go.Proofs.Ytilimpjcdeeaiaa.G


namespace Go.Proofs.Ytilimpjcdeeaiaa.G
open Go.RowKit Go.Proofs.YtilimpjcdeeaiaaW.PrintWords Go.Proofs.YtilimpjcdeeaiaaW.PrintLast Go.Proofs.YtilimpjcdeeaiaaW.PrintMore
attribute [local go_sem] max2_int min2_int max_two min_two max_three min_three max_four min_four   -- for this text's walks alone
def laws_eqIntSS.l0 : Nat → List (List Int) → List (List Int) → Int → Option (Bool)
 | 0, _, _, _ => none
 | k + 1, x0, x1, x5 => if x5 < (x0.length : Int) then (if 0 ≤ x5 then (if x5 < (x1.length : Int) then ((laws_eqIntS.f k (rd_L3 x0 x5) (rd_L3 x1 x5)).bind fun t1044 => (if t1044 = true then (laws_eqIntSS.l0 k x0 x1 (wrap64 (x5 + 1))) else (some false))) else (none)) else (none)) else (some true)
def laws_eqIntSS.f (k : Nat) (l0 : List (List Int)) (l1 : List (List Int)) : Option (Bool) := if (l0.length : Int) = (l1.length : Int) then (laws_eqIntSS.l0 k l0 l1 0) else (some false)
theorem laws_eqIntSS.mono_l : ∀ k, (∀ y0 y1 y2, LeO (laws_eqIntSS.l0 k y0 y1 y2) (laws_eqIntSS.l0 (k + 1) y0 y1 y2))
 | 0 => fun _ _ _ r h => by simp [laws_eqIntSS.l0] at h
 | k + 1 => by
  have ih0 := laws_eqIntSS.mono_l k
  ·intro y0 y1 y2
   unfold laws_eqIntSS.l0
   repeat' first
   | (with_reducible exact ih0 _ _ _)
   | (with_reducible exact laws_eqIntS.mono _ _ _)
   | (with_reducible exact LeO.refl _)
   | (with_reducible exact LeO.none _)
   | (with_reducible refine LeO.ite ?_ ?_)
   | (with_reducible refine LeO.bind ?_ (fun _ => ?_))
   | exact ih0 _ _ _
   | exact laws_eqIntS.mono _ _ _
   | exact LeO.none _
   | refine LeO.ite ?_ ?_
   | refine LeO.bind ?_ (fun _ => ?_)
theorem laws_eqIntSS.mono : ∀ a0 a1 k, LeO (laws_eqIntSS.f k a0 a1) (laws_eqIntSS.f (k + 1) a0 a1) := by
 intro a0 a1 k
 have ih0 := laws_eqIntSS.mono_l k
 unfold laws_eqIntSS.f
 repeat' first
   | (with_reducible exact ih0 _ _ _)
   | (with_reducible exact laws_eqIntS.mono _ _ _)
   | (with_reducible exact LeO.refl _)
   | (with_reducible exact LeO.none _)
   | (with_reducible refine LeO.ite ?_ ?_)
   | (with_reducible refine LeO.bind ?_ (fun _ => ?_))
   | exact ih0 _ _ _
   | exact laws_eqIntS.mono _ _ _
   | exact LeO.none _
   | refine LeO.ite ?_ ?_
   | refine LeO.bind ?_ (fun _ => ?_)
set_option maxHeartbeats 8000000 in
set_option maxRecDepth 100000 in
theorem laws_eqIntSS.calls (k : Nat) (A0 : Option Addr) (c0 : Nat) (l0 : List (List Int)) (A1 : Option Addr) (c1 : Nat) (l1 : List (List Int)) (r : Bool) (w : World) (hr0 : Kd.C (Kd.slice 3 (Kd.int .i64)) w A0 l0.length l0) (hc0 : l0.length ≤ c0) (hr1 : Kd.C (Kd.slice 3 (Kd.int .i64)) w A1 l1.length l1) (hc1 : l1.length ≤ c1) (h : laws_eqIntSS.f k l0 l1 = some r) :
  Calls Try.prog 128 #[.slice A0 l0.length c0, .slice A1 l1.length c1] w fun e w' => e = .returned (.bool r) ∧ Drawn0 w w' := by
 have HR0 := zA hr0
 have HC0 := zA hc0
 clear hr0 hc0
 have HR1 := zA hr1
 have HC1 := zA hc1
 clear hr1 hc1
 have H : (if (l0.length : Int) = (l1.length : Int) then (laws_eqIntSS.l0 k l0 l1 0) else (some false)) = some r := h
 clear h
 by_cases c3 : (l0.length : Int) = (l1.length : Int)
 ·rw [if_pos c3] at H
  have c3b0 : ((l0.length : Int) == (l1.length : Int)) = true := beq_iff_eq.mpr c3
  have c3b1 : ((l0.length : Int) != (l1.length : Int)) = false := bne_eq_false_iff_eq.mpr c3
  have c3b2 : (l0.length == l1.length) = true := by first | simpa using c3 | (simp at c3 ⊢; omega)
  clear c3
  have H' := zA H
  clear H
  go_enter Try.func128, Try.ntmps128
  go_wp2
  repeat (go_quiet (fail); try go_wp2)
  go_loopg [5] k (fun kq v5 w' => ∃ (x5_1 : Int), v5 = .int .i64 x5_1 ∧ Aside0 (laws_eqIntSS.l0 kq l0 l1 x5_1 = some r) ∧ Aside0 (kq ≤ k) ∧ Drawn0 w w')
  case atStart => exact ⟨(0), (by first | rfl | (simp; done) | (simp [*]; done)), H', ⟨Nat.le_refl _⟩, by repeat (first | exact Drawn0.refl _ | apply Drawn0.step)⟩
  case round =>
   clear H'
   try clear c3b0
   try clear c3b1
   try clear c3b2
   obtain ⟨x5_1, rfl, HA, HK1, ⟨m1, rfl⟩⟩ := hrel
   cases gk with
   | zero => exact absurd HA.out (by simp [laws_eqIntSS.l0])
   | succ k1 =>
    have H := HA.out
    clear HA
    simp only [laws_eqIntSS.l0] at H
    by_cases c4 : x5_1 < (l0.length : Int)
    ·rw [if_pos c4] at H
     have c4b0 : decide (x5_1 < (l0.length : Int)) = true := zT c4
     clear c4
     by_cases c5 : 0 ≤ x5_1
     ·rw [if_pos c5] at H
      have c5b0 : decide (0 ≤ x5_1) = true := zT c5
      clear c5
      by_cases c6 : x5_1 < (l1.length : Int)
      ·rw [if_pos c6] at H
       have c6b0 : decide (x5_1 < (l1.length : Int)) = true := zT c6
       clear c6
       replace H := Option.bind_eq_some_iff.mp H
       obtain ⟨t1044, A70, H⟩ := H
       replace H : (if t1044 = true then (laws_eqIntSS.l0 k1 l0 l1 (wrap64 (x5_1 + 1))) else (some false)) = some r := H
       have A7 := zA A70
       clear A70
       by_cases c8 : t1044 = true
       ·subst c8
        have H1 : (laws_eqIntSS.l0 k1 l0 l1 (wrap64 (x5_1 + 1))) = some r := by rw [if_pos rfl] at H; exact H
        clear H
        have H := H1
        clear H1
        have H' := zA H
        clear H
        have p1042 : 0 ≤ (x5_1 : Int) := zI (by first | (with_reducible assumption) | assumption)
        have q1042 : x5_1 < (l0.length : Int) := zI (by first | (with_reducible assumption) | assumption)
        obtain ⟨ad1042, A1042_0, c1042_0, e1042, hx1042_0, hl1042_0, hi1042_0⟩ := at_L3 HR0.out x5_1 p1042 q1042
        cases e1042
        have HR1042_0 := zA hi1042_0
        have HC1042_0 := zA hl1042_0
        clear hi1042_0 hl1042_0
        replace p1042 := eq_true p1042
        replace q1042 := eq_true q1042
        have p1043 : 0 ≤ (x5_1 : Int) := zI (by first | (with_reducible assumption) | assumption)
        have q1043 : x5_1 < (l1.length : Int) := zI (by first | (with_reducible assumption) | assumption)
        obtain ⟨ad1043, A1043_0, c1043_0, e1043, hx1043_0, hl1043_0, hi1043_0⟩ := at_L3 HR1.out x5_1 p1043 q1043
        cases e1043
        have HR1043_0 := zA hi1043_0
        have HC1043_0 := zA hl1043_0
        clear hi1043_0 hl1043_0
        replace p1043 := eq_true p1043
        replace q1043 := eq_true q1043
        go_wp2_with (fail)
        repeat (go_quiet (first | (go_at_call 36; (with_reducible refine (laws_eqIntS.calls k1 _ _ (rd_L3 l0 x5_1) _ _ (rd_L3 l1 x5_1) true _ ?side1 ?side2 ?side3 ?side4 A7.out).mono ?_); (case side1 => repeat (first | exact HR1042_0.out | (with_reducible refine yH ?_ _) | (with_reducible refine yF ?_ _) | (with_reducible refine yG ?_))); (case side2 => exact HC1042_0.out); (case side3 => repeat (first | exact HR1043_0.out | (with_reducible refine yH ?_ _) | (with_reducible refine yF ?_ _) | (with_reducible refine yG ?_))); (case side4 => exact HC1043_0.out); rintro e w' ⟨rfl, ⟨nd, rfl⟩⟩; (try first | exact ⟨rfl, _, World.drewN_drewN _ _ _⟩ | exact ⟨rfl, _, Eq.trans (World.drewN_drewN _ _ _) (congrArg (World.drewN _) (Nat.add_assoc _ _ _))⟩))); try go_wp2_with (fail))
        go_roundg k1
        case measure => have := HK1.out; omega
        case rel => exact ⟨(wrap64 (x5_1 + 1)), (by first | rfl | (simp; done) | (simp [*]; done)), H', ⟨by have := HK1.out; omega⟩, by repeat (first | exact Drawn0.refl _ | apply Drawn0.step)⟩
       ·replace c8 := Bool.eq_false_iff.mpr c8
        subst c8
        have H1 : (some false) = some r := by rw [if_neg (show ¬ (false = true) by decide)] at H; exact H
        clear H
        have H := H1
        clear H1
        obtain rfl := Option.some.inj H
        have p1042 : 0 ≤ (x5_1 : Int) := zI (by first | (with_reducible assumption) | assumption)
        have q1042 : x5_1 < (l0.length : Int) := zI (by first | (with_reducible assumption) | assumption)
        obtain ⟨ad1042, A1042_0, c1042_0, e1042, hx1042_0, hl1042_0, hi1042_0⟩ := at_L3 HR0.out x5_1 p1042 q1042
        cases e1042
        have HR1042_0 := zA hi1042_0
        have HC1042_0 := zA hl1042_0
        clear hi1042_0 hl1042_0
        replace p1042 := eq_true p1042
        replace q1042 := eq_true q1042
        have p1043 : 0 ≤ (x5_1 : Int) := zI (by first | (with_reducible assumption) | assumption)
        have q1043 : x5_1 < (l1.length : Int) := zI (by first | (with_reducible assumption) | assumption)
        obtain ⟨ad1043, A1043_0, c1043_0, e1043, hx1043_0, hl1043_0, hi1043_0⟩ := at_L3 HR1.out x5_1 p1043 q1043
        cases e1043
        have HR1043_0 := zA hi1043_0
        have HC1043_0 := zA hl1043_0
        clear hi1043_0 hl1043_0
        replace p1043 := eq_true p1043
        replace q1043 := eq_true q1043
        go_wp2_with (fail)
        repeat (go_quiet (first | (go_at_call 36; (with_reducible refine (laws_eqIntS.calls k1 _ _ (rd_L3 l0 x5_1) _ _ (rd_L3 l1 x5_1) false _ ?side1 ?side2 ?side3 ?side4 A7.out).mono ?_); (case side1 => repeat (first | exact HR1042_0.out | (with_reducible refine yH ?_ _) | (with_reducible refine yF ?_ _) | (with_reducible refine yG ?_))); (case side2 => exact HC1042_0.out); (case side3 => repeat (first | exact HR1043_0.out | (with_reducible refine yH ?_ _) | (with_reducible refine yF ?_ _) | (with_reducible refine yG ?_))); (case side4 => exact HC1043_0.out); rintro e w' ⟨rfl, ⟨nd, rfl⟩⟩; (try first | exact ⟨rfl, _, World.drewN_drewN _ _ _⟩ | exact ⟨rfl, _, Eq.trans (World.drewN_drewN _ _ _) (congrArg (World.drewN _) (Nat.add_assoc _ _ _))⟩))); try go_wp2_with (fail))
        go_ret
        exact ⟨by first | rfl | (simp; done) | (simp [*]; done), by repeat (first | exact Drawn0.refl _ | apply Drawn0.step)⟩
      ·rw [if_neg c6] at H
       exact absurd H (by simp)
     ·rw [if_neg c5] at H
      exact absurd H (by simp)
    ·rw [if_neg c4] at H
     have c4b0 : decide (x5_1 < (l0.length : Int)) = false := decide_eq_false c4
     clear c4
     obtain rfl := Option.some.inj H
     go_wp2
     repeat (go_quiet (fail); try go_wp2)
     go_ret
     exact ⟨by first | rfl | (simp; done) | (simp [*]; done), by repeat (first | exact Drawn0.refl _ | apply Drawn0.step)⟩
 ·rw [if_neg c3] at H
  have c3b0 : ((l0.length : Int) == (l1.length : Int)) = false := beq_eq_false_iff_ne.mpr c3
  have c3b1 : ((l0.length : Int) != (l1.length : Int)) = true := bne_iff_ne.mpr c3
  have c3b2 : (l0.length == l1.length) = false := by first | simpa using c3 | (simp at c3 ⊢; omega)
  obtain rfl := Option.some.inj H
  go_enter Try.func128, Try.ntmps128
  go_wp2
  repeat (go_quiet (fail); try go_wp2)
  go_ret
  exact ⟨by first | rfl | (simp; done) | (simp [*]; done), by repeat (first | exact Drawn0.refl _ | apply Drawn0.step)⟩
theorem rdL_nat (l : List (List Int)) (i : Nat) (h : i < l.length) : rd_L3 l (i : Int) = l[i] := by simp [rd_L3, h]
theorem laws_eqIntSS.ev (a b : List (List Int)) (ha : a.length ≤ 4611686018427387904) (hal : ∀ x ∈ a, x.length ≤ 4611686018427387904) : Ev (fun k => laws_eqIntSS.f k a b) (a == b) := by
 unfold laws_eqIntSS.f
 by_cases hl : a.length = b.length
 ·refine Ev.ip (by omega) ?_
  have key : ∀ d i : Nat, a.length - i = d → i ≤ a.length → Ev (fun k => laws_eqIntSS.l0 k a b (i : Int)) (a.drop i == b.drop i) := by
   intro d
   induction d with
   | zero =>
    intro i hd hi
    refine Ev.step (fun _ => by rw [laws_eqIntSS.l0]) ?_
    refine Ev.ng (by omega) (Ev.eq (Ev.now _) ?_)
    rw [List.drop_of_length_le (by omega), List.drop_of_length_le (by omega)]; rfl
   | succ d ih =>
    intro i hd hi
    have h1 : i < a.length := by omega
    have h2 : i < b.length := by omega
    refine Ev.step (fun _ => by rw [laws_eqIntSS.l0]) ?_
    refine Ev.ip (by omega) (Ev.ip (by omega) (Ev.ip (by omega) ?_))
    rw [rdL_nat a i h1, rdL_nat b i h2, wrap_succ i (by omega)]
    have e : (a.drop i == b.drop i) = (a[i] == b[i] && a.drop (i + 1) == b.drop (i + 1)) := by
     rw [List.drop_eq_getElem_cons h1, List.drop_eq_getElem_cons h2]; rfl
    rw [e]
    refine Ev.bind (laws_eqIntS.ev _ _ (hal _ (List.getElem_mem _))) ?_
    by_cases h : a[i] = b[i]
    ·exact Ev.ip (by simp [h]) (Ev.eq (ih (i + 1) (by omega) (by omega)) (by simp [h]))
    ·exact Ev.ng (by simp [h]) (Ev.eq (Ev.now _) (by simp [h]))
  exact key _ 0 rfl (by omega)
 ·refine Ev.ng (by omega) (Ev.eq (Ev.now _) ?_)
  symm
  rw [beq_eq_false_iff_ne]
  intro h; exact hl (by rw [h])
theorem laws_eqIntSS.T (a : List (List Int)) (ha : a.length ≤ 1048576) (hx : ∀ x ∈ a, x.length ≤ 1048576) : Ev (fun k => laws_eqIntSS.f k a a) true := Ev.eq (laws_eqIntSS.ev a a (by omega) (fun x h => by have := hx x h; omega)) (by simp)
end Go.Proofs.Ytilimpjcdeeaiaa.G


namespace Go.Proofs.Ytilimpjcdeeaiaa.G
open Go.RowKit Go.Proofs.YtilimpjcdeeaiaaW.PrintWords Go.Proofs.YtilimpjcdeeaiaaW.PrintLast Go.Proofs.YtilimpjcdeeaiaaW.PrintMore
attribute [local go_sem] max2_int min2_int max_two min_two max_three min_three max_four min_four   -- for this text's walks alone
def laws_eqPicture.f (k : Nat) (a0_0 : Int) (a0_1 : Int) (a0_2 : Int) (l0_3 : List (List Int)) (a1_0 : Int) (a1_1 : Int) (a1_2 : Int) (l1_3 : List (List Int)) : Option (Bool) := if a0_0 = a1_0 then (if a0_1 = a1_1 then (if a0_2 = a1_2 then ((laws_eqIntSS.f k l0_3 l1_3).bind fun t1285 => (if t1285 = true then (some true) else (some false))) else (some false)) else (some false)) else (some false)
theorem laws_eqPicture.mono : ∀ a0 a1 a2 a3 a4 a5 a6 a7 k, LeO (laws_eqPicture.f k a0 a1 a2 a3 a4 a5 a6 a7) (laws_eqPicture.f (k + 1) a0 a1 a2 a3 a4 a5 a6 a7) := by
 intro a0 a1 a2 a3 a4 a5 a6 a7 k
 unfold laws_eqPicture.f
 repeat' first
   | (with_reducible exact laws_eqIntSS.mono _ _ _)
   | (with_reducible exact LeO.refl _)
   | (with_reducible exact LeO.none _)
   | (with_reducible refine LeO.ite ?_ ?_)
   | (with_reducible refine LeO.bind ?_ (fun _ => ?_))
   | exact laws_eqIntSS.mono _ _ _
   | exact LeO.none _
   | refine LeO.ite ?_ ?_
   | refine LeO.bind ?_ (fun _ => ?_)
set_option maxHeartbeats 8000000 in
set_option maxRecDepth 100000 in
theorem laws_eqPicture.calls (k : Nat) (a0_0 : Int) (a0_1 : Int) (a0_2 : Int) (A0_3 : Option Addr) (c0_3 : Nat) (l0_3 : List (List Int)) (a1_0 : Int) (a1_1 : Int) (a1_2 : Int) (A1_3 : Option Addr) (c1_3 : Nat) (l1_3 : List (List Int)) (r : Bool) (w : World) (hr0_3 : Kd.C (Kd.slice 3 (Kd.int .i64)) w A0_3 l0_3.length l0_3) (hc0_3 : l0_3.length ≤ c0_3) (hr1_3 : Kd.C (Kd.slice 3 (Kd.int .i64)) w A1_3 l1_3.length l1_3) (hc1_3 : l1_3.length ≤ c1_3) (h : laws_eqPicture.f k a0_0 a0_1 a0_2 l0_3 a1_0 a1_1 a1_2 l1_3 = some r) :
  Calls Try.prog 102 #[.agg #[.int .i64 a0_0, .int .i64 a0_1, .int .i64 a0_2, .slice A0_3 l0_3.length c0_3], .agg #[.int .i64 a1_0, .int .i64 a1_1, .int .i64 a1_2, .slice A1_3 l1_3.length c1_3]] w fun e w' => e = .returned (.bool r) ∧ Below w.heap.size w w' := by
 have hu81 := Try.underlying81
 have HR0_3 := zA hr0_3
 have HC0_3 := zA hc0_3
 clear hr0_3 hc0_3
 have HR1_3 := zA hr1_3
 have HC1_3 := zA hc1_3
 clear hr1_3 hc1_3
 have HB := zA (Below.refl w.heap.size w)
 have H : (if a0_0 = a1_0 then (if a0_1 = a1_1 then (if a0_2 = a1_2 then ((laws_eqIntSS.f k l0_3 l1_3).bind fun t1285 => (if t1285 = true then (some true) else (some false))) else (some false)) else (some false)) else (some false)) = some r := h
 clear h
 by_cases c3 : a0_0 = a1_0
 ·rw [if_pos c3] at H
  have c3b0 : (a0_0 == a1_0) = true := beq_iff_eq.mpr c3
  have c3b1 : (a0_0 != a1_0) = false := bne_eq_false_iff_eq.mpr c3
  clear c3
  by_cases c4 : a0_1 = a1_1
  ·rw [if_pos c4] at H
   have c4b0 : (a0_1 == a1_1) = true := beq_iff_eq.mpr c4
   have c4b1 : (a0_1 != a1_1) = false := bne_eq_false_iff_eq.mpr c4
   clear c4
   by_cases c5 : a0_2 = a1_2
   ·rw [if_pos c5] at H
    have c5b0 : (a0_2 == a1_2) = true := beq_iff_eq.mpr c5
    have c5b1 : (a0_2 != a1_2) = false := bne_eq_false_iff_eq.mpr c5
    clear c5
    replace H := Option.bind_eq_some_iff.mp H
    obtain ⟨t1285, A60, H⟩ := H
    replace H : (if t1285 = true then (some true) else (some false)) = some r := H
    have A6 := zA A60
    clear A60
    by_cases c7 : t1285 = true
    ·subst c7
     have H1 : (some true) = some r := by rw [if_pos rfl] at H; exact H
     clear H
     have H := H1
     clear H1
     obtain rfl := Option.some.inj H
     go_enter Try.func102, Try.ntmps102
     go_wp2_with (first | ((with_reducible refine gate_dst (N := 2) rfl ?_); refine box_event ?hg (N := 2) ?hd (cs := #[.int .i64 a0_0, .int .i64 a0_1, .int .i64 a0_2, .slice A0_3 l0_3.length c0_3]) (t := 81) ?hr ?_; (case hd => rfl); (case hg => rfl); (case hr => first | (go_simp; done) | (go_simp; rfl)); intro gb1283 hg w8 hbox hb; have n0_ := zA (below_step (by repeat (first | (with_reducible first | exact HB.out | apply zC | apply zB | apply zF) | exact HB.out)) hb); have n1_ := zA (hbox); have n2_ := zA ((by rw [hg]; exact (zL (by repeat (first | (with_reducible first | exact HB.out | apply zC | apply zB | apply zF) | exact HB.out))) : w.heap.size ≤ gb1283)); have n3_ := zA ((by rw [hg]; exact (zL (by repeat (first | (with_reducible first | exact HB.out | apply zC | apply zB | apply zF) | exact HB.out))) : w.heap.size ≤ gb1283)); clear HB; have HB := n0_; have BK1283 := n1_; have GW1283 := n2_; have GE1283 := n3_; clear n0_ n1_ n2_ n3_; clear hb hbox hg) | ((with_reducible refine gate_dst (N := 3) rfl ?_); refine box_event ?hg (N := 3) ?hd (cs := #[.int .i64 a1_0, .int .i64 a1_1, .int .i64 a1_2, .slice A1_3 l1_3.length c1_3]) (t := 81) ?hr ?_; (case hd => rfl); (case hg => rfl); (case hr => first | (go_simp; done) | (go_simp; rfl)); intro gb1284 hg w9 hbox hb; have n0_ := zA (blk_below (g := gb1283) (o := .cells #[.int .i64 a0_0, .int .i64 a0_1, .int .i64 a0_2, .slice A0_3 l0_3.length c0_3] 81 (0, 0)) (by (with_reducible repeat (first | refine zG ?_ _ | refine zH ?_ | refine zD ?_ _)); exact BK1283.out) hb); have n1_ := zA (below_step (by repeat (first | (with_reducible first | exact HB.out | apply zC | apply zB | apply zF | refine zE ?_ GE1283.out) | exact HB.out)) hb); have n2_ := zA (hbox); have n3_ := zA ((by rw [hg]; exact (zL (by repeat (first | (with_reducible first | exact HB.out | apply zC | apply zB | apply zF | refine zE ?_ GE1283.out) | exact HB.out))) : w.heap.size ≤ gb1284)); have n4_ := zA ((by rw [hg]; exact (zL (by repeat (first | (with_reducible first | exact HB.out | apply zC | apply zB | apply zF | refine zE ?_ GE1283.out) | exact HB.out))) : w.heap.size ≤ gb1284)); have n5_ := zA ((by rw [hg]; exact Nat.ne_of_lt (blk_lt (g := gb1283) (o := .cells #[.int .i64 a0_0, .int .i64 a0_1, .int .i64 a0_2, .slice A0_3 l0_3.length c0_3] 81 (0, 0)) (by (with_reducible repeat (first | refine zG ?_ _ | refine zH ?_ | refine zD ?_ _)); exact BK1283.out)) : gb1283 ≠ gb1284)); have n6_ := zA ((by rw [hg]; exact Nat.ne_of_gt (blk_lt (g := gb1283) (o := .cells #[.int .i64 a0_0, .int .i64 a0_1, .int .i64 a0_2, .slice A0_3 l0_3.length c0_3] 81 (0, 0)) (by (with_reducible repeat (first | refine zG ?_ _ | refine zH ?_ | refine zD ?_ _)); exact BK1283.out)) : gb1284 ≠ gb1283)); clear BK1283; clear HB; have BK1283 := n0_; have HB := n1_; have BK1284 := n2_; have GW1284 := n3_; have GE1284 := n4_; have NB1283_1284 := n5_; have NB1284_1283 := n6_; clear n0_ n1_ n2_ n3_ n4_ n5_ n6_; clear hb hbox hg; have hnb10 := NB1283_1284.out; have hnc10 := NB1284_1283.out; have hcz11_0 : w9.cell? ⟨gb1283, 0, none⟩ = some (.int .i64 a0_0) := (zK BK1283.out 0).trans rfl; have hcz11_1 : w9.cell? ⟨gb1283, 1, none⟩ = some (.int .i64 a0_1) := (zK BK1283.out 1).trans rfl; have hcz11_2 : w9.cell? ⟨gb1283, 2, none⟩ = some (.int .i64 a0_2) := (zK BK1283.out 2).trans rfl; have hcz11_3 : w9.cell? ⟨gb1283, 3, none⟩ = some (.slice A0_3 l0_3.length c0_3) := (zK BK1283.out 3).trans rfl; have hfz11_0 := zJ BK1283.out 0; have hfz11_1 := zJ BK1283.out 1; have hfz11_2 := zJ BK1283.out 2; have hfz11_3 := zJ BK1283.out 3; have hcz12_0 : w9.cell? ⟨gb1284, 0, none⟩ = some (.int .i64 a1_0) := (zK BK1284.out 0).trans rfl; have hcz12_1 : w9.cell? ⟨gb1284, 1, none⟩ = some (.int .i64 a1_1) := (zK BK1284.out 1).trans rfl; have hcz12_2 : w9.cell? ⟨gb1284, 2, none⟩ = some (.int .i64 a1_2) := (zK BK1284.out 2).trans rfl; have hcz12_3 : w9.cell? ⟨gb1284, 3, none⟩ = some (.slice A1_3 l1_3.length c1_3) := (zK BK1284.out 3).trans rfl; have hfz12_0 := zJ BK1284.out 0; have hfz12_1 := zJ BK1284.out 1; have hfz12_2 := zJ BK1284.out 2; have hfz12_3 := zJ BK1284.out 3) | ((with_reducible refine gate_callee (f := 128) rfl ?_); refine goesL_ (some 24) rfl rfl Try.func128 (by kernel_rfl) rfl #[.slice A0_3 l0_3.length c0_3, .slice A1_3 l1_3.length c1_3] rfl (by (try simp only [zU, zV, zW]); first | done | rfl | (simp only [zR, zQ]; rfl)) ?_; (with_reducible refine (laws_eqIntSS.calls k _ _ l0_3 _ _ l1_3 true _ ?side1 ?side2 ?side3 ?side4 A6.out).mono ?_); (case side1 => repeat (first | exact (Kd.C_below HR0_3.out HB.out) | (with_reducible refine yH ?_ _) | (with_reducible refine yF ?_ _) | (with_reducible refine yG ?_))); (case side2 => exact HC0_3.out); (case side3 => repeat (first | exact (Kd.C_below HR1_3.out HB.out) | (with_reducible refine yH ?_ _) | (with_reducible refine yF ?_ _) | (with_reducible refine yG ?_))); (case side4 => exact HC1_3.out); rintro e w' ⟨rfl, ⟨nd, rfl⟩⟩; refine ⟨_, rfl, ?_⟩))
     go_ret
     exact ⟨by first | rfl | (simp [errW_none, errW_some] <;> rfl) | (simp [*, errW_none, errW_some] <;> rfl), by repeat (first | (with_reducible first | exact HB.out | apply zC | apply zB | apply zF | refine zE ?_ GE1283.out | refine zE ?_ GE1284.out) | exact HB.out)⟩
    ·replace c7 := Bool.eq_false_iff.mpr c7
     subst c7
     have H1 : (some false) = some r := by rw [if_neg (show ¬ (false = true) by decide)] at H; exact H
     clear H
     have H := H1
     clear H1
     obtain rfl := Option.some.inj H
     go_enter Try.func102, Try.ntmps102
     go_wp2_with (first | ((with_reducible refine gate_dst (N := 2) rfl ?_); refine box_event ?hg (N := 2) ?hd (cs := #[.int .i64 a0_0, .int .i64 a0_1, .int .i64 a0_2, .slice A0_3 l0_3.length c0_3]) (t := 81) ?hr ?_; (case hd => rfl); (case hg => rfl); (case hr => first | (go_simp; done) | (go_simp; rfl)); intro gb1283 hg w13 hbox hb; have n0_ := zA (below_step (by repeat (first | (with_reducible first | exact HB.out | apply zC | apply zB | apply zF) | exact HB.out)) hb); have n1_ := zA (hbox); have n2_ := zA ((by rw [hg]; exact (zL (by repeat (first | (with_reducible first | exact HB.out | apply zC | apply zB | apply zF) | exact HB.out))) : w.heap.size ≤ gb1283)); have n3_ := zA ((by rw [hg]; exact (zL (by repeat (first | (with_reducible first | exact HB.out | apply zC | apply zB | apply zF) | exact HB.out))) : w.heap.size ≤ gb1283)); clear HB; have HB := n0_; have BK1283 := n1_; have GW1283 := n2_; have GE1283 := n3_; clear n0_ n1_ n2_ n3_; clear hb hbox hg) | ((with_reducible refine gate_dst (N := 3) rfl ?_); refine box_event ?hg (N := 3) ?hd (cs := #[.int .i64 a1_0, .int .i64 a1_1, .int .i64 a1_2, .slice A1_3 l1_3.length c1_3]) (t := 81) ?hr ?_; (case hd => rfl); (case hg => rfl); (case hr => first | (go_simp; done) | (go_simp; rfl)); intro gb1284 hg w14 hbox hb; have n0_ := zA (blk_below (g := gb1283) (o := .cells #[.int .i64 a0_0, .int .i64 a0_1, .int .i64 a0_2, .slice A0_3 l0_3.length c0_3] 81 (0, 0)) (by (with_reducible repeat (first | refine zG ?_ _ | refine zH ?_ | refine zD ?_ _)); exact BK1283.out) hb); have n1_ := zA (below_step (by repeat (first | (with_reducible first | exact HB.out | apply zC | apply zB | apply zF | refine zE ?_ GE1283.out) | exact HB.out)) hb); have n2_ := zA (hbox); have n3_ := zA ((by rw [hg]; exact (zL (by repeat (first | (with_reducible first | exact HB.out | apply zC | apply zB | apply zF | refine zE ?_ GE1283.out) | exact HB.out))) : w.heap.size ≤ gb1284)); have n4_ := zA ((by rw [hg]; exact (zL (by repeat (first | (with_reducible first | exact HB.out | apply zC | apply zB | apply zF | refine zE ?_ GE1283.out) | exact HB.out))) : w.heap.size ≤ gb1284)); have n5_ := zA ((by rw [hg]; exact Nat.ne_of_lt (blk_lt (g := gb1283) (o := .cells #[.int .i64 a0_0, .int .i64 a0_1, .int .i64 a0_2, .slice A0_3 l0_3.length c0_3] 81 (0, 0)) (by (with_reducible repeat (first | refine zG ?_ _ | refine zH ?_ | refine zD ?_ _)); exact BK1283.out)) : gb1283 ≠ gb1284)); have n6_ := zA ((by rw [hg]; exact Nat.ne_of_gt (blk_lt (g := gb1283) (o := .cells #[.int .i64 a0_0, .int .i64 a0_1, .int .i64 a0_2, .slice A0_3 l0_3.length c0_3] 81 (0, 0)) (by (with_reducible repeat (first | refine zG ?_ _ | refine zH ?_ | refine zD ?_ _)); exact BK1283.out)) : gb1284 ≠ gb1283)); clear BK1283; clear HB; have BK1283 := n0_; have HB := n1_; have BK1284 := n2_; have GW1284 := n3_; have GE1284 := n4_; have NB1283_1284 := n5_; have NB1284_1283 := n6_; clear n0_ n1_ n2_ n3_ n4_ n5_ n6_; clear hb hbox hg; have hnb15 := NB1283_1284.out; have hnc15 := NB1284_1283.out; have hcz16_0 : w14.cell? ⟨gb1283, 0, none⟩ = some (.int .i64 a0_0) := (zK BK1283.out 0).trans rfl; have hcz16_1 : w14.cell? ⟨gb1283, 1, none⟩ = some (.int .i64 a0_1) := (zK BK1283.out 1).trans rfl; have hcz16_2 : w14.cell? ⟨gb1283, 2, none⟩ = some (.int .i64 a0_2) := (zK BK1283.out 2).trans rfl; have hcz16_3 : w14.cell? ⟨gb1283, 3, none⟩ = some (.slice A0_3 l0_3.length c0_3) := (zK BK1283.out 3).trans rfl; have hfz16_0 := zJ BK1283.out 0; have hfz16_1 := zJ BK1283.out 1; have hfz16_2 := zJ BK1283.out 2; have hfz16_3 := zJ BK1283.out 3; have hcz17_0 : w14.cell? ⟨gb1284, 0, none⟩ = some (.int .i64 a1_0) := (zK BK1284.out 0).trans rfl; have hcz17_1 : w14.cell? ⟨gb1284, 1, none⟩ = some (.int .i64 a1_1) := (zK BK1284.out 1).trans rfl; have hcz17_2 : w14.cell? ⟨gb1284, 2, none⟩ = some (.int .i64 a1_2) := (zK BK1284.out 2).trans rfl; have hcz17_3 : w14.cell? ⟨gb1284, 3, none⟩ = some (.slice A1_3 l1_3.length c1_3) := (zK BK1284.out 3).trans rfl; have hfz17_0 := zJ BK1284.out 0; have hfz17_1 := zJ BK1284.out 1; have hfz17_2 := zJ BK1284.out 2; have hfz17_3 := zJ BK1284.out 3) | ((with_reducible refine gate_callee (f := 128) rfl ?_); refine goesL_ (some 24) rfl rfl Try.func128 (by kernel_rfl) rfl #[.slice A0_3 l0_3.length c0_3, .slice A1_3 l1_3.length c1_3] rfl (by (try simp only [zU, zV, zW]); first | done | rfl | (simp only [zR, zQ]; rfl)) ?_; (with_reducible refine (laws_eqIntSS.calls k _ _ l0_3 _ _ l1_3 false _ ?side1 ?side2 ?side3 ?side4 A6.out).mono ?_); (case side1 => repeat (first | exact (Kd.C_below HR0_3.out HB.out) | (with_reducible refine yH ?_ _) | (with_reducible refine yF ?_ _) | (with_reducible refine yG ?_))); (case side2 => exact HC0_3.out); (case side3 => repeat (first | exact (Kd.C_below HR1_3.out HB.out) | (with_reducible refine yH ?_ _) | (with_reducible refine yF ?_ _) | (with_reducible refine yG ?_))); (case side4 => exact HC1_3.out); rintro e w' ⟨rfl, ⟨nd, rfl⟩⟩; refine ⟨_, rfl, ?_⟩))
     go_ret
     exact ⟨by first | rfl | (simp [errW_none, errW_some] <;> rfl) | (simp [*, errW_none, errW_some] <;> rfl), by repeat (first | (with_reducible first | exact HB.out | apply zC | apply zB | apply zF | refine zE ?_ GE1283.out | refine zE ?_ GE1284.out) | exact HB.out)⟩
   ·rw [if_neg c5] at H
    have c5b0 : (a0_2 == a1_2) = false := beq_eq_false_iff_ne.mpr c5
    have c5b1 : (a0_2 != a1_2) = true := bne_iff_ne.mpr c5
    obtain rfl := Option.some.inj H
    go_enter Try.func102, Try.ntmps102
    go_wp2_with (first | ((with_reducible refine gate_dst (N := 2) rfl ?_); refine box_event ?hg (N := 2) ?hd (cs := #[.int .i64 a0_0, .int .i64 a0_1, .int .i64 a0_2, .slice A0_3 l0_3.length c0_3]) (t := 81) ?hr ?_; (case hd => rfl); (case hg => rfl); (case hr => first | (go_simp; done) | (go_simp; rfl)); intro gb1283 hg w18 hbox hb; have n0_ := zA (below_step (by repeat (first | (with_reducible first | exact HB.out | apply zC | apply zB | apply zF) | exact HB.out)) hb); have n1_ := zA (hbox); have n2_ := zA ((by rw [hg]; exact (zL (by repeat (first | (with_reducible first | exact HB.out | apply zC | apply zB | apply zF) | exact HB.out))) : w.heap.size ≤ gb1283)); have n3_ := zA ((by rw [hg]; exact (zL (by repeat (first | (with_reducible first | exact HB.out | apply zC | apply zB | apply zF) | exact HB.out))) : w.heap.size ≤ gb1283)); clear HB; have HB := n0_; have BK1283 := n1_; have GW1283 := n2_; have GE1283 := n3_; clear n0_ n1_ n2_ n3_; clear hb hbox hg) | ((with_reducible refine gate_dst (N := 3) rfl ?_); refine box_event ?hg (N := 3) ?hd (cs := #[.int .i64 a1_0, .int .i64 a1_1, .int .i64 a1_2, .slice A1_3 l1_3.length c1_3]) (t := 81) ?hr ?_; (case hd => rfl); (case hg => rfl); (case hr => first | (go_simp; done) | (go_simp; rfl)); intro gb1284 hg w19 hbox hb; have n0_ := zA (blk_below (g := gb1283) (o := .cells #[.int .i64 a0_0, .int .i64 a0_1, .int .i64 a0_2, .slice A0_3 l0_3.length c0_3] 81 (0, 0)) (by (with_reducible repeat (first | refine zG ?_ _ | refine zH ?_ | refine zD ?_ _)); exact BK1283.out) hb); have n1_ := zA (below_step (by repeat (first | (with_reducible first | exact HB.out | apply zC | apply zB | apply zF | refine zE ?_ GE1283.out) | exact HB.out)) hb); have n2_ := zA (hbox); have n3_ := zA ((by rw [hg]; exact (zL (by repeat (first | (with_reducible first | exact HB.out | apply zC | apply zB | apply zF | refine zE ?_ GE1283.out) | exact HB.out))) : w.heap.size ≤ gb1284)); have n4_ := zA ((by rw [hg]; exact (zL (by repeat (first | (with_reducible first | exact HB.out | apply zC | apply zB | apply zF | refine zE ?_ GE1283.out) | exact HB.out))) : w.heap.size ≤ gb1284)); have n5_ := zA ((by rw [hg]; exact Nat.ne_of_lt (blk_lt (g := gb1283) (o := .cells #[.int .i64 a0_0, .int .i64 a0_1, .int .i64 a0_2, .slice A0_3 l0_3.length c0_3] 81 (0, 0)) (by (with_reducible repeat (first | refine zG ?_ _ | refine zH ?_ | refine zD ?_ _)); exact BK1283.out)) : gb1283 ≠ gb1284)); have n6_ := zA ((by rw [hg]; exact Nat.ne_of_gt (blk_lt (g := gb1283) (o := .cells #[.int .i64 a0_0, .int .i64 a0_1, .int .i64 a0_2, .slice A0_3 l0_3.length c0_3] 81 (0, 0)) (by (with_reducible repeat (first | refine zG ?_ _ | refine zH ?_ | refine zD ?_ _)); exact BK1283.out)) : gb1284 ≠ gb1283)); clear BK1283; clear HB; have BK1283 := n0_; have HB := n1_; have BK1284 := n2_; have GW1284 := n3_; have GE1284 := n4_; have NB1283_1284 := n5_; have NB1284_1283 := n6_; clear n0_ n1_ n2_ n3_ n4_ n5_ n6_; clear hb hbox hg; have hnb20 := NB1283_1284.out; have hnc20 := NB1284_1283.out; have hcz21_0 : w19.cell? ⟨gb1283, 0, none⟩ = some (.int .i64 a0_0) := (zK BK1283.out 0).trans rfl; have hcz21_1 : w19.cell? ⟨gb1283, 1, none⟩ = some (.int .i64 a0_1) := (zK BK1283.out 1).trans rfl; have hcz21_2 : w19.cell? ⟨gb1283, 2, none⟩ = some (.int .i64 a0_2) := (zK BK1283.out 2).trans rfl; have hcz21_3 : w19.cell? ⟨gb1283, 3, none⟩ = some (.slice A0_3 l0_3.length c0_3) := (zK BK1283.out 3).trans rfl; have hfz21_0 := zJ BK1283.out 0; have hfz21_1 := zJ BK1283.out 1; have hfz21_2 := zJ BK1283.out 2; have hfz21_3 := zJ BK1283.out 3; have hcz22_0 : w19.cell? ⟨gb1284, 0, none⟩ = some (.int .i64 a1_0) := (zK BK1284.out 0).trans rfl; have hcz22_1 : w19.cell? ⟨gb1284, 1, none⟩ = some (.int .i64 a1_1) := (zK BK1284.out 1).trans rfl; have hcz22_2 : w19.cell? ⟨gb1284, 2, none⟩ = some (.int .i64 a1_2) := (zK BK1284.out 2).trans rfl; have hcz22_3 : w19.cell? ⟨gb1284, 3, none⟩ = some (.slice A1_3 l1_3.length c1_3) := (zK BK1284.out 3).trans rfl; have hfz22_0 := zJ BK1284.out 0; have hfz22_1 := zJ BK1284.out 1; have hfz22_2 := zJ BK1284.out 2; have hfz22_3 := zJ BK1284.out 3))
    go_ret
    exact ⟨by first | rfl | (simp [errW_none, errW_some] <;> rfl) | (simp [*, errW_none, errW_some] <;> rfl), by repeat (first | (with_reducible first | exact HB.out | apply zC | apply zB | apply zF | refine zE ?_ GE1283.out | refine zE ?_ GE1284.out) | exact HB.out)⟩
  ·rw [if_neg c4] at H
   have c4b0 : (a0_1 == a1_1) = false := beq_eq_false_iff_ne.mpr c4
   have c4b1 : (a0_1 != a1_1) = true := bne_iff_ne.mpr c4
   obtain rfl := Option.some.inj H
   go_enter Try.func102, Try.ntmps102
   go_wp2_with (first | ((with_reducible refine gate_dst (N := 2) rfl ?_); refine box_event ?hg (N := 2) ?hd (cs := #[.int .i64 a0_0, .int .i64 a0_1, .int .i64 a0_2, .slice A0_3 l0_3.length c0_3]) (t := 81) ?hr ?_; (case hd => rfl); (case hg => rfl); (case hr => first | (go_simp; done) | (go_simp; rfl)); intro gb1283 hg w23 hbox hb; have n0_ := zA (below_step (by repeat (first | (with_reducible first | exact HB.out | apply zC | apply zB | apply zF) | exact HB.out)) hb); have n1_ := zA (hbox); have n2_ := zA ((by rw [hg]; exact (zL (by repeat (first | (with_reducible first | exact HB.out | apply zC | apply zB | apply zF) | exact HB.out))) : w.heap.size ≤ gb1283)); have n3_ := zA ((by rw [hg]; exact (zL (by repeat (first | (with_reducible first | exact HB.out | apply zC | apply zB | apply zF) | exact HB.out))) : w.heap.size ≤ gb1283)); clear HB; have HB := n0_; have BK1283 := n1_; have GW1283 := n2_; have GE1283 := n3_; clear n0_ n1_ n2_ n3_; clear hb hbox hg) | ((with_reducible refine gate_dst (N := 3) rfl ?_); refine box_event ?hg (N := 3) ?hd (cs := #[.int .i64 a1_0, .int .i64 a1_1, .int .i64 a1_2, .slice A1_3 l1_3.length c1_3]) (t := 81) ?hr ?_; (case hd => rfl); (case hg => rfl); (case hr => first | (go_simp; done) | (go_simp; rfl)); intro gb1284 hg w24 hbox hb; have n0_ := zA (blk_below (g := gb1283) (o := .cells #[.int .i64 a0_0, .int .i64 a0_1, .int .i64 a0_2, .slice A0_3 l0_3.length c0_3] 81 (0, 0)) (by (with_reducible repeat (first | refine zG ?_ _ | refine zH ?_ | refine zD ?_ _)); exact BK1283.out) hb); have n1_ := zA (below_step (by repeat (first | (with_reducible first | exact HB.out | apply zC | apply zB | apply zF | refine zE ?_ GE1283.out) | exact HB.out)) hb); have n2_ := zA (hbox); have n3_ := zA ((by rw [hg]; exact (zL (by repeat (first | (with_reducible first | exact HB.out | apply zC | apply zB | apply zF | refine zE ?_ GE1283.out) | exact HB.out))) : w.heap.size ≤ gb1284)); have n4_ := zA ((by rw [hg]; exact (zL (by repeat (first | (with_reducible first | exact HB.out | apply zC | apply zB | apply zF | refine zE ?_ GE1283.out) | exact HB.out))) : w.heap.size ≤ gb1284)); have n5_ := zA ((by rw [hg]; exact Nat.ne_of_lt (blk_lt (g := gb1283) (o := .cells #[.int .i64 a0_0, .int .i64 a0_1, .int .i64 a0_2, .slice A0_3 l0_3.length c0_3] 81 (0, 0)) (by (with_reducible repeat (first | refine zG ?_ _ | refine zH ?_ | refine zD ?_ _)); exact BK1283.out)) : gb1283 ≠ gb1284)); have n6_ := zA ((by rw [hg]; exact Nat.ne_of_gt (blk_lt (g := gb1283) (o := .cells #[.int .i64 a0_0, .int .i64 a0_1, .int .i64 a0_2, .slice A0_3 l0_3.length c0_3] 81 (0, 0)) (by (with_reducible repeat (first | refine zG ?_ _ | refine zH ?_ | refine zD ?_ _)); exact BK1283.out)) : gb1284 ≠ gb1283)); clear BK1283; clear HB; have BK1283 := n0_; have HB := n1_; have BK1284 := n2_; have GW1284 := n3_; have GE1284 := n4_; have NB1283_1284 := n5_; have NB1284_1283 := n6_; clear n0_ n1_ n2_ n3_ n4_ n5_ n6_; clear hb hbox hg; have hnb25 := NB1283_1284.out; have hnc25 := NB1284_1283.out; have hcz26_0 : w24.cell? ⟨gb1283, 0, none⟩ = some (.int .i64 a0_0) := (zK BK1283.out 0).trans rfl; have hcz26_1 : w24.cell? ⟨gb1283, 1, none⟩ = some (.int .i64 a0_1) := (zK BK1283.out 1).trans rfl; have hcz26_2 : w24.cell? ⟨gb1283, 2, none⟩ = some (.int .i64 a0_2) := (zK BK1283.out 2).trans rfl; have hcz26_3 : w24.cell? ⟨gb1283, 3, none⟩ = some (.slice A0_3 l0_3.length c0_3) := (zK BK1283.out 3).trans rfl; have hfz26_0 := zJ BK1283.out 0; have hfz26_1 := zJ BK1283.out 1; have hfz26_2 := zJ BK1283.out 2; have hfz26_3 := zJ BK1283.out 3; have hcz27_0 : w24.cell? ⟨gb1284, 0, none⟩ = some (.int .i64 a1_0) := (zK BK1284.out 0).trans rfl; have hcz27_1 : w24.cell? ⟨gb1284, 1, none⟩ = some (.int .i64 a1_1) := (zK BK1284.out 1).trans rfl; have hcz27_2 : w24.cell? ⟨gb1284, 2, none⟩ = some (.int .i64 a1_2) := (zK BK1284.out 2).trans rfl; have hcz27_3 : w24.cell? ⟨gb1284, 3, none⟩ = some (.slice A1_3 l1_3.length c1_3) := (zK BK1284.out 3).trans rfl; have hfz27_0 := zJ BK1284.out 0; have hfz27_1 := zJ BK1284.out 1; have hfz27_2 := zJ BK1284.out 2; have hfz27_3 := zJ BK1284.out 3))
   go_ret
   exact ⟨by first | rfl | (simp [errW_none, errW_some] <;> rfl) | (simp [*, errW_none, errW_some] <;> rfl), by repeat (first | (with_reducible first | exact HB.out | apply zC | apply zB | apply zF | refine zE ?_ GE1283.out | refine zE ?_ GE1284.out) | exact HB.out)⟩
 ·rw [if_neg c3] at H
  have c3b0 : (a0_0 == a1_0) = false := beq_eq_false_iff_ne.mpr c3
  have c3b1 : (a0_0 != a1_0) = true := bne_iff_ne.mpr c3
  obtain rfl := Option.some.inj H
  go_enter Try.func102, Try.ntmps102
  go_wp2_with (first | ((with_reducible refine gate_dst (N := 2) rfl ?_); refine box_event ?hg (N := 2) ?hd (cs := #[.int .i64 a0_0, .int .i64 a0_1, .int .i64 a0_2, .slice A0_3 l0_3.length c0_3]) (t := 81) ?hr ?_; (case hd => rfl); (case hg => rfl); (case hr => first | (go_simp; done) | (go_simp; rfl)); intro gb1283 hg w28 hbox hb; have n0_ := zA (below_step (by repeat (first | (with_reducible first | exact HB.out | apply zC | apply zB | apply zF) | exact HB.out)) hb); have n1_ := zA (hbox); have n2_ := zA ((by rw [hg]; exact (zL (by repeat (first | (with_reducible first | exact HB.out | apply zC | apply zB | apply zF) | exact HB.out))) : w.heap.size ≤ gb1283)); have n3_ := zA ((by rw [hg]; exact (zL (by repeat (first | (with_reducible first | exact HB.out | apply zC | apply zB | apply zF) | exact HB.out))) : w.heap.size ≤ gb1283)); clear HB; have HB := n0_; have BK1283 := n1_; have GW1283 := n2_; have GE1283 := n3_; clear n0_ n1_ n2_ n3_; clear hb hbox hg) | ((with_reducible refine gate_dst (N := 3) rfl ?_); refine box_event ?hg (N := 3) ?hd (cs := #[.int .i64 a1_0, .int .i64 a1_1, .int .i64 a1_2, .slice A1_3 l1_3.length c1_3]) (t := 81) ?hr ?_; (case hd => rfl); (case hg => rfl); (case hr => first | (go_simp; done) | (go_simp; rfl)); intro gb1284 hg w29 hbox hb; have n0_ := zA (blk_below (g := gb1283) (o := .cells #[.int .i64 a0_0, .int .i64 a0_1, .int .i64 a0_2, .slice A0_3 l0_3.length c0_3] 81 (0, 0)) (by (with_reducible repeat (first | refine zG ?_ _ | refine zH ?_ | refine zD ?_ _)); exact BK1283.out) hb); have n1_ := zA (below_step (by repeat (first | (with_reducible first | exact HB.out | apply zC | apply zB | apply zF | refine zE ?_ GE1283.out) | exact HB.out)) hb); have n2_ := zA (hbox); have n3_ := zA ((by rw [hg]; exact (zL (by repeat (first | (with_reducible first | exact HB.out | apply zC | apply zB | apply zF | refine zE ?_ GE1283.out) | exact HB.out))) : w.heap.size ≤ gb1284)); have n4_ := zA ((by rw [hg]; exact (zL (by repeat (first | (with_reducible first | exact HB.out | apply zC | apply zB | apply zF | refine zE ?_ GE1283.out) | exact HB.out))) : w.heap.size ≤ gb1284)); have n5_ := zA ((by rw [hg]; exact Nat.ne_of_lt (blk_lt (g := gb1283) (o := .cells #[.int .i64 a0_0, .int .i64 a0_1, .int .i64 a0_2, .slice A0_3 l0_3.length c0_3] 81 (0, 0)) (by (with_reducible repeat (first | refine zG ?_ _ | refine zH ?_ | refine zD ?_ _)); exact BK1283.out)) : gb1283 ≠ gb1284)); have n6_ := zA ((by rw [hg]; exact Nat.ne_of_gt (blk_lt (g := gb1283) (o := .cells #[.int .i64 a0_0, .int .i64 a0_1, .int .i64 a0_2, .slice A0_3 l0_3.length c0_3] 81 (0, 0)) (by (with_reducible repeat (first | refine zG ?_ _ | refine zH ?_ | refine zD ?_ _)); exact BK1283.out)) : gb1284 ≠ gb1283)); clear BK1283; clear HB; have BK1283 := n0_; have HB := n1_; have BK1284 := n2_; have GW1284 := n3_; have GE1284 := n4_; have NB1283_1284 := n5_; have NB1284_1283 := n6_; clear n0_ n1_ n2_ n3_ n4_ n5_ n6_; clear hb hbox hg; have hnb30 := NB1283_1284.out; have hnc30 := NB1284_1283.out; have hcz31_0 : w29.cell? ⟨gb1283, 0, none⟩ = some (.int .i64 a0_0) := (zK BK1283.out 0).trans rfl; have hcz31_1 : w29.cell? ⟨gb1283, 1, none⟩ = some (.int .i64 a0_1) := (zK BK1283.out 1).trans rfl; have hcz31_2 : w29.cell? ⟨gb1283, 2, none⟩ = some (.int .i64 a0_2) := (zK BK1283.out 2).trans rfl; have hcz31_3 : w29.cell? ⟨gb1283, 3, none⟩ = some (.slice A0_3 l0_3.length c0_3) := (zK BK1283.out 3).trans rfl; have hfz31_0 := zJ BK1283.out 0; have hfz31_1 := zJ BK1283.out 1; have hfz31_2 := zJ BK1283.out 2; have hfz31_3 := zJ BK1283.out 3; have hcz32_0 : w29.cell? ⟨gb1284, 0, none⟩ = some (.int .i64 a1_0) := (zK BK1284.out 0).trans rfl; have hcz32_1 : w29.cell? ⟨gb1284, 1, none⟩ = some (.int .i64 a1_1) := (zK BK1284.out 1).trans rfl; have hcz32_2 : w29.cell? ⟨gb1284, 2, none⟩ = some (.int .i64 a1_2) := (zK BK1284.out 2).trans rfl; have hcz32_3 : w29.cell? ⟨gb1284, 3, none⟩ = some (.slice A1_3 l1_3.length c1_3) := (zK BK1284.out 3).trans rfl; have hfz32_0 := zJ BK1284.out 0; have hfz32_1 := zJ BK1284.out 1; have hfz32_2 := zJ BK1284.out 2; have hfz32_3 := zJ BK1284.out 3))
  go_ret
  exact ⟨by first | rfl | (simp [errW_none, errW_some] <;> rfl) | (simp [*, errW_none, errW_some] <;> rfl), by repeat (first | (with_reducible first | exact HB.out | apply zC | apply zB | apply zF | refine zE ?_ GE1283.out | refine zE ?_ GE1284.out) | exact HB.out)⟩
end Go.Proofs.Ytilimpjcdeeaiaa.G


namespace Go.Proofs.Ytilimpjcdeeaiaa.G
open Go.RowKit Go.Proofs.YtilimpjcdeeaiaaW.PrintWords Go.Proofs.YtilimpjcdeeaiaaW.PrintLast Go.Proofs.YtilimpjcdeeaiaaW.PrintMore
attribute [local go_sem] max2_int min2_int max_two min_two max_three min_three max_four min_four   -- for this text's walks alone
def laws_eqByteS.l0 : Nat → List Int → List Int → Int → Option (Bool)
 | 0, _, _, _ => none
 | k + 1, x0, x1, x5 => if x5 < (x0.length : Int) then (if 0 ≤ x5 then (if x5 < (x1.length : Int) then (if (rd x0 x5) = (rd x1 x5) then (laws_eqByteS.l0 k x0 x1 (wrap64 (x5 + 1))) else (some false)) else (none)) else (none)) else (some true)
def laws_eqByteS.f (k : Nat) (l0 : List Int) (l1 : List Int) : Option (Bool) := if (l0.length : Int) = (l1.length : Int) then (laws_eqByteS.l0 k l0 l1 0) else (some false)
theorem laws_eqByteS.mono_l : ∀ k, (∀ y0 y1 y2, LeO (laws_eqByteS.l0 k y0 y1 y2) (laws_eqByteS.l0 (k + 1) y0 y1 y2))
 | 0 => fun _ _ _ r h => by simp [laws_eqByteS.l0] at h
 | k + 1 => by
  have ih0 := laws_eqByteS.mono_l k
  ·intro y0 y1 y2
   unfold laws_eqByteS.l0
   repeat' first
   | (with_reducible exact ih0 _ _ _)
   | (with_reducible exact LeO.refl _)
   | (with_reducible exact LeO.none _)
   | (with_reducible refine LeO.ite ?_ ?_)
   | (with_reducible refine LeO.bind ?_ (fun _ => ?_))
   | exact ih0 _ _ _
   | exact LeO.none _
   | refine LeO.ite ?_ ?_
   | refine LeO.bind ?_ (fun _ => ?_)
theorem laws_eqByteS.mono : ∀ a0 a1 k, LeO (laws_eqByteS.f k a0 a1) (laws_eqByteS.f (k + 1) a0 a1) := by
 intro a0 a1 k
 have ih0 := laws_eqByteS.mono_l k
 unfold laws_eqByteS.f
 repeat' first
   | (with_reducible exact ih0 _ _ _)
   | (with_reducible exact LeO.refl _)
   | (with_reducible exact LeO.none _)
   | (with_reducible refine LeO.ite ?_ ?_)
   | (with_reducible refine LeO.bind ?_ (fun _ => ?_))
   | exact ih0 _ _ _
   | exact LeO.none _
   | refine LeO.ite ?_ ?_
   | refine LeO.bind ?_ (fun _ => ?_)
set_option maxHeartbeats 8000000 in
set_option maxRecDepth 100000 in
theorem laws_eqByteS.calls (k : Nat) (A0 : Option Addr) (c0 : Nat) (l0 : List Int) (A1 : Option Addr) (c1 : Nat) (l1 : List Int) (r : Bool) (w : World) (hr0 : Kd.C (Kd.int .u8) w A0 l0.length l0) (hc0 : l0.length ≤ c0) (hr1 : Kd.C (Kd.int .u8) w A1 l1.length l1) (hc1 : l1.length ≤ c1) (h : laws_eqByteS.f k l0 l1 = some r) :
  Calls Try.prog 139 #[.slice A0 l0.length c0, .slice A1 l1.length c1] w fun e w' => e = .returned (.bool r) ∧ Drawn0 w w' := by
 have HR0 := zA hr0
 have HC0 := zA hc0
 clear hr0 hc0
 have HR1 := zA hr1
 have HC1 := zA hc1
 clear hr1 hc1
 have H : (if (l0.length : Int) = (l1.length : Int) then (laws_eqByteS.l0 k l0 l1 0) else (some false)) = some r := h
 clear h
 by_cases c3 : (l0.length : Int) = (l1.length : Int)
 ·rw [if_pos c3] at H
  have c3b0 : ((l0.length : Int) == (l1.length : Int)) = true := beq_iff_eq.mpr c3
  have c3b1 : ((l0.length : Int) != (l1.length : Int)) = false := bne_eq_false_iff_eq.mpr c3
  have c3b2 : (l0.length == l1.length) = true := by first | simpa using c3 | (simp at c3 ⊢; omega)
  clear c3
  have H' := zA H
  clear H
  go_enter Try.func139, Try.ntmps139
  go_wp2
  repeat (go_quiet (fail); try go_wp2)
  go_loopg [5] k (fun kq v5 w' => ∃ (x5_1 : Int), v5 = .int .i64 x5_1 ∧ Aside0 (laws_eqByteS.l0 kq l0 l1 x5_1 = some r) ∧ Aside0 (kq ≤ k) ∧ Drawn0 w w')
  case atStart => exact ⟨(0), (by first | rfl | (simp; done) | (simp [*]; done)), H', ⟨Nat.le_refl _⟩, by repeat (first | exact Drawn0.refl _ | apply Drawn0.step)⟩
  case round =>
   clear H'
   try clear c1
   try clear p2
   try clear c3
   try clear c3b0
   try clear c3b1
   try clear c3b2
   obtain ⟨x5_1, rfl, HA, HK1, ⟨m1, rfl⟩⟩ := hrel
   cases gk with
   | zero => exact absurd HA.out (by simp [laws_eqByteS.l0])
   | succ k1 =>
    have H := HA.out
    clear HA
    simp only [laws_eqByteS.l0] at H
    by_cases c4 : x5_1 < (l0.length : Int)
    ·rw [if_pos c4] at H
     have c4b0 : decide (x5_1 < (l0.length : Int)) = true := zT c4
     clear c4
     by_cases c5 : 0 ≤ x5_1
     ·rw [if_pos c5] at H
      have c5b0 : decide (0 ≤ x5_1) = true := zT c5
      clear c5
      by_cases c6 : x5_1 < (l1.length : Int)
      ·rw [if_pos c6] at H
       have c6b0 : decide (x5_1 < (l1.length : Int)) = true := zT c6
       clear c6
       by_cases c7 : (rd l0 x5_1) = (rd l1 x5_1)
       ·rw [if_pos c7] at H
        have c7b0 : ((rd l0 x5_1) == (rd l1 x5_1)) = true := beq_iff_eq.mpr c7
        have c7b1 : ((rd l0 x5_1) != (rd l1 x5_1)) = false := bne_eq_false_iff_eq.mpr c7
        clear c7
        have H' := zA H
        clear H
        have p1286 : 0 ≤ (x5_1 : Int) := zI (by first | (with_reducible assumption) | assumption)
        have q1286 : x5_1 < (l0.length : Int) := zI (by first | (with_reducible assumption) | assumption)
        obtain ⟨ad1286, e1286, hx1286_0⟩ := Kd.at_int HR0.out x5_1 p1286 q1286
        cases e1286
        replace p1286 := eq_true p1286
        replace q1286 := eq_true q1286
        have p1287 : 0 ≤ (x5_1 : Int) := zI (by first | (with_reducible assumption) | assumption)
        have q1287 : x5_1 < (l1.length : Int) := zI (by first | (with_reducible assumption) | assumption)
        obtain ⟨ad1287, e1287, hx1287_0⟩ := Kd.at_int HR1.out x5_1 p1287 q1287
        cases e1287
        replace p1287 := eq_true p1287
        replace q1287 := eq_true q1287
        go_wp2
        repeat (go_quiet (fail); try go_wp2)
        go_roundg k1
        case measure => have := HK1.out; omega
        case rel => exact ⟨(wrap64 (x5_1 + 1)), (by first | rfl | (simp; done) | (simp [*]; done)), H', ⟨by have := HK1.out; omega⟩, by repeat (first | exact Drawn0.refl _ | apply Drawn0.step)⟩
       ·rw [if_neg c7] at H
        have c7b0 : ((rd l0 x5_1) == (rd l1 x5_1)) = false := beq_eq_false_iff_ne.mpr c7
        have c7b1 : ((rd l0 x5_1) != (rd l1 x5_1)) = true := bne_iff_ne.mpr c7
        obtain rfl := Option.some.inj H
        have p1286 : 0 ≤ (x5_1 : Int) := zI (by first | (with_reducible assumption) | assumption)
        have q1286 : x5_1 < (l0.length : Int) := zI (by first | (with_reducible assumption) | assumption)
        obtain ⟨ad1286, e1286, hx1286_0⟩ := Kd.at_int HR0.out x5_1 p1286 q1286
        cases e1286
        replace p1286 := eq_true p1286
        replace q1286 := eq_true q1286
        have p1287 : 0 ≤ (x5_1 : Int) := zI (by first | (with_reducible assumption) | assumption)
        have q1287 : x5_1 < (l1.length : Int) := zI (by first | (with_reducible assumption) | assumption)
        obtain ⟨ad1287, e1287, hx1287_0⟩ := Kd.at_int HR1.out x5_1 p1287 q1287
        cases e1287
        replace p1287 := eq_true p1287
        replace q1287 := eq_true q1287
        go_wp2
        repeat (go_quiet (fail); try go_wp2)
        go_ret
        exact ⟨by first | rfl | (simp; done) | (simp [*]; done), by repeat (first | exact Drawn0.refl _ | apply Drawn0.step)⟩
      ·rw [if_neg c6] at H
       exact absurd H (by simp)
     ·rw [if_neg c5] at H
      exact absurd H (by simp)
    ·rw [if_neg c4] at H
     have c4b0 : decide (x5_1 < (l0.length : Int)) = false := decide_eq_false c4
     clear c4
     obtain rfl := Option.some.inj H
     go_wp2
     repeat (go_quiet (fail); try go_wp2)
     go_ret
     exact ⟨by first | rfl | (simp; done) | (simp [*]; done), by repeat (first | exact Drawn0.refl _ | apply Drawn0.step)⟩
 ·rw [if_neg c3] at H
  have c3b0 : ((l0.length : Int) == (l1.length : Int)) = false := beq_eq_false_iff_ne.mpr c3
  have c3b1 : ((l0.length : Int) != (l1.length : Int)) = true := bne_iff_ne.mpr c3
  have c3b2 : (l0.length == l1.length) = false := by first | simpa using c3 | (simp at c3 ⊢; omega)
  obtain rfl := Option.some.inj H
  go_enter Try.func139, Try.ntmps139
  go_wp2
  repeat (go_quiet (fail); try go_wp2)
  go_ret
  exact ⟨by first | rfl | (simp; done) | (simp [*]; done), by repeat (first | exact Drawn0.refl _ | apply Drawn0.step)⟩
theorem laws_eqByteS.ev (a b : List Int) (ha : a.length ≤ 4611686018427387904) : Ev (fun k => laws_eqByteS.f k a b) (a == b) := by
 unfold laws_eqByteS.f
 by_cases hl : a.length = b.length
 ·refine Ev.ip (by omega) ?_
  have key : ∀ d i : Nat, a.length - i = d → i ≤ a.length → Ev (fun k => laws_eqByteS.l0 k a b (i : Int)) (a.drop i == b.drop i) := by
   intro d
   induction d with
   | zero =>
    intro i hd hi
    refine Ev.step (fun _ => by rw [laws_eqByteS.l0]) ?_
    refine Ev.ng (by omega) (Ev.eq (Ev.now _) ?_)
    rw [List.drop_of_length_le (by omega), List.drop_of_length_le (by omega)]; rfl
   | succ d ih =>
    intro i hd hi
    have h1 : i < a.length := by omega
    have h2 : i < b.length := by omega
    refine Ev.step (fun _ => by rw [laws_eqByteS.l0]) ?_
    refine Ev.ip (by omega) (Ev.ip (by omega) (Ev.ip (by omega) ?_))
    rw [rd_nat a i h1, rd_nat b i h2, wrap_succ i (by omega)]
    have e : (a.drop i == b.drop i) = (a[i] == b[i] && a.drop (i + 1) == b.drop (i + 1)) := by
     rw [List.drop_eq_getElem_cons h1, List.drop_eq_getElem_cons h2]; rfl
    rw [e]
    by_cases h : a[i] = b[i]
    ·exact Ev.ip h (Ev.eq (ih (i + 1) (by omega) (by omega)) (by simp [h]))
    ·exact Ev.ng h (Ev.eq (Ev.now _) (by simp [h]))
  exact key _ 0 rfl (by omega)
 ·refine Ev.ng (by omega) (Ev.eq (Ev.now _) ?_)
  symm
  rw [beq_eq_false_iff_ne]
  intro h; exact hl (by rw [h])
theorem laws_eqByteS.T (a : List Int) (ha : a.length ≤ 1048576) : Ev (fun k => laws_eqByteS.f k a a) true := Ev.eq (laws_eqByteS.ev a a (by omega)) (by simp)
end Go.Proofs.Ytilimpjcdeeaiaa.G


namespace Go.Proofs.Ytilimpjcdeeaiaa.G
open Go.RowKit Go.Proofs.YtilimpjcdeeaiaaW.PrintWords Go.Proofs.YtilimpjcdeeaiaaW.PrintLast Go.Proofs.YtilimpjcdeeaiaaW.PrintMore
attribute [local go_sem] max2_int min2_int max_two min_two max_three min_three max_four min_four   -- for this text's walks alone
def laws_eqFault.f (a0_0 : Int) (a0_1 : Int) (a1_0 : Int) (a1_1 : Int) : Option (Bool) := if a0_0 = a1_0 then (if a0_1 = a1_1 then (some true) else (some false)) else (some false)
set_option maxHeartbeats 8000000 in
set_option maxRecDepth 100000 in
theorem laws_eqFault.calls (a0_0 : Int) (a0_1 : Int) (a1_0 : Int) (a1_1 : Int) (r : Bool) (w : World) (h : laws_eqFault.f a0_0 a0_1 a1_0 a1_1 = some r) :
  Calls Try.prog 140 #[.agg #[.int .i64 a0_0, .int .i64 a0_1], .agg #[.int .i64 a1_0, .int .i64 a1_1]] w fun e w' => e = .returned (.bool r) ∧ Below w.heap.size w w' := by
 have hu82 := Try.underlying82
 have HB := zA (Below.refl w.heap.size w)
 have H : (if a0_0 = a1_0 then (if a0_1 = a1_1 then (some true) else (some false)) else (some false)) = some r := h
 clear h
 by_cases c3 : a0_0 = a1_0
 ·rw [if_pos c3] at H
  have c3b0 : (a0_0 == a1_0) = true := beq_iff_eq.mpr c3
  have c3b1 : (a0_0 != a1_0) = false := bne_eq_false_iff_eq.mpr c3
  clear c3
  by_cases c4 : a0_1 = a1_1
  ·rw [if_pos c4] at H
   have c4b0 : (a0_1 == a1_1) = true := beq_iff_eq.mpr c4
   have c4b1 : (a0_1 != a1_1) = false := bne_eq_false_iff_eq.mpr c4
   clear c4
   obtain rfl := Option.some.inj H
   go_enter Try.func140, Try.ntmps140
   go_wp2_with (first | ((with_reducible refine gate_dst (N := 2) rfl ?_); refine box_event ?hg (N := 2) ?hd (cs := #[.int .i64 a0_0, .int .i64 a0_1]) (t := 82) ?hr ?_; (case hd => rfl); (case hg => rfl); (case hr => first | (go_simp; done) | (go_simp; rfl)); intro gb1288 hg w5 hbox hb; have n0_ := zA (below_step (by repeat (first | (with_reducible first | exact HB.out | apply zC | apply zB | apply zF) | exact HB.out)) hb); have n1_ := zA (hbox); have n2_ := zA ((by rw [hg]; exact (zL (by repeat (first | (with_reducible first | exact HB.out | apply zC | apply zB | apply zF) | exact HB.out))) : w.heap.size ≤ gb1288)); have n3_ := zA ((by rw [hg]; exact (zL (by repeat (first | (with_reducible first | exact HB.out | apply zC | apply zB | apply zF) | exact HB.out))) : w.heap.size ≤ gb1288)); clear HB; have HB := n0_; have BK1288 := n1_; have GW1288 := n2_; have GE1288 := n3_; clear n0_ n1_ n2_ n3_; clear hb hbox hg) | ((with_reducible refine gate_dst (N := 3) rfl ?_); refine box_event ?hg (N := 3) ?hd (cs := #[.int .i64 a1_0, .int .i64 a1_1]) (t := 82) ?hr ?_; (case hd => rfl); (case hg => rfl); (case hr => first | (go_simp; done) | (go_simp; rfl)); intro gb1289 hg w6 hbox hb; have n0_ := zA (blk_below (g := gb1288) (o := .cells #[.int .i64 a0_0, .int .i64 a0_1] 82 (0, 0)) (by (with_reducible repeat (first | refine zG ?_ _ | refine zH ?_ | refine zD ?_ _)); exact BK1288.out) hb); have n1_ := zA (below_step (by repeat (first | (with_reducible first | exact HB.out | apply zC | apply zB | apply zF | refine zE ?_ GE1288.out) | exact HB.out)) hb); have n2_ := zA (hbox); have n3_ := zA ((by rw [hg]; exact (zL (by repeat (first | (with_reducible first | exact HB.out | apply zC | apply zB | apply zF | refine zE ?_ GE1288.out) | exact HB.out))) : w.heap.size ≤ gb1289)); have n4_ := zA ((by rw [hg]; exact (zL (by repeat (first | (with_reducible first | exact HB.out | apply zC | apply zB | apply zF | refine zE ?_ GE1288.out) | exact HB.out))) : w.heap.size ≤ gb1289)); have n5_ := zA ((by rw [hg]; exact Nat.ne_of_lt (blk_lt (g := gb1288) (o := .cells #[.int .i64 a0_0, .int .i64 a0_1] 82 (0, 0)) (by (with_reducible repeat (first | refine zG ?_ _ | refine zH ?_ | refine zD ?_ _)); exact BK1288.out)) : gb1288 ≠ gb1289)); have n6_ := zA ((by rw [hg]; exact Nat.ne_of_gt (blk_lt (g := gb1288) (o := .cells #[.int .i64 a0_0, .int .i64 a0_1] 82 (0, 0)) (by (with_reducible repeat (first | refine zG ?_ _ | refine zH ?_ | refine zD ?_ _)); exact BK1288.out)) : gb1289 ≠ gb1288)); clear BK1288; clear HB; have BK1288 := n0_; have HB := n1_; have BK1289 := n2_; have GW1289 := n3_; have GE1289 := n4_; have NB1288_1289 := n5_; have NB1289_1288 := n6_; clear n0_ n1_ n2_ n3_ n4_ n5_ n6_; clear hb hbox hg; have hnb7 := NB1288_1289.out; have hnc7 := NB1289_1288.out; have hcz8_0 : w6.cell? ⟨gb1288, 0, none⟩ = some (.int .i64 a0_0) := (zK BK1288.out 0).trans rfl; have hcz8_1 : w6.cell? ⟨gb1288, 1, none⟩ = some (.int .i64 a0_1) := (zK BK1288.out 1).trans rfl; have hfz8_0 := zJ BK1288.out 0; have hfz8_1 := zJ BK1288.out 1; have hcz9_0 : w6.cell? ⟨gb1289, 0, none⟩ = some (.int .i64 a1_0) := (zK BK1289.out 0).trans rfl; have hcz9_1 : w6.cell? ⟨gb1289, 1, none⟩ = some (.int .i64 a1_1) := (zK BK1289.out 1).trans rfl; have hfz9_0 := zJ BK1289.out 0; have hfz9_1 := zJ BK1289.out 1))
   go_ret
   exact ⟨by first | rfl | (simp [errW_none, errW_some] <;> rfl) | (simp [*, errW_none, errW_some] <;> rfl), by repeat (first | (with_reducible first | exact HB.out | apply zC | apply zB | apply zF | refine zE ?_ GE1288.out | refine zE ?_ GE1289.out) | exact HB.out)⟩
  ·rw [if_neg c4] at H
   have c4b0 : (a0_1 == a1_1) = false := beq_eq_false_iff_ne.mpr c4
   have c4b1 : (a0_1 != a1_1) = true := bne_iff_ne.mpr c4
   obtain rfl := Option.some.inj H
   go_enter Try.func140, Try.ntmps140
   go_wp2_with (first | ((with_reducible refine gate_dst (N := 2) rfl ?_); refine box_event ?hg (N := 2) ?hd (cs := #[.int .i64 a0_0, .int .i64 a0_1]) (t := 82) ?hr ?_; (case hd => rfl); (case hg => rfl); (case hr => first | (go_simp; done) | (go_simp; rfl)); intro gb1288 hg w10 hbox hb; have n0_ := zA (below_step (by repeat (first | (with_reducible first | exact HB.out | apply zC | apply zB | apply zF) | exact HB.out)) hb); have n1_ := zA (hbox); have n2_ := zA ((by rw [hg]; exact (zL (by repeat (first | (with_reducible first | exact HB.out | apply zC | apply zB | apply zF) | exact HB.out))) : w.heap.size ≤ gb1288)); have n3_ := zA ((by rw [hg]; exact (zL (by repeat (first | (with_reducible first | exact HB.out | apply zC | apply zB | apply zF) | exact HB.out))) : w.heap.size ≤ gb1288)); clear HB; have HB := n0_; have BK1288 := n1_; have GW1288 := n2_; have GE1288 := n3_; clear n0_ n1_ n2_ n3_; clear hb hbox hg) | ((with_reducible refine gate_dst (N := 3) rfl ?_); refine box_event ?hg (N := 3) ?hd (cs := #[.int .i64 a1_0, .int .i64 a1_1]) (t := 82) ?hr ?_; (case hd => rfl); (case hg => rfl); (case hr => first | (go_simp; done) | (go_simp; rfl)); intro gb1289 hg w11 hbox hb; have n0_ := zA (blk_below (g := gb1288) (o := .cells #[.int .i64 a0_0, .int .i64 a0_1] 82 (0, 0)) (by (with_reducible repeat (first | refine zG ?_ _ | refine zH ?_ | refine zD ?_ _)); exact BK1288.out) hb); have n1_ := zA (below_step (by repeat (first | (with_reducible first | exact HB.out | apply zC | apply zB | apply zF | refine zE ?_ GE1288.out) | exact HB.out)) hb); have n2_ := zA (hbox); have n3_ := zA ((by rw [hg]; exact (zL (by repeat (first | (with_reducible first | exact HB.out | apply zC | apply zB | apply zF | refine zE ?_ GE1288.out) | exact HB.out))) : w.heap.size ≤ gb1289)); have n4_ := zA ((by rw [hg]; exact (zL (by repeat (first | (with_reducible first | exact HB.out | apply zC | apply zB | apply zF | refine zE ?_ GE1288.out) | exact HB.out))) : w.heap.size ≤ gb1289)); have n5_ := zA ((by rw [hg]; exact Nat.ne_of_lt (blk_lt (g := gb1288) (o := .cells #[.int .i64 a0_0, .int .i64 a0_1] 82 (0, 0)) (by (with_reducible repeat (first | refine zG ?_ _ | refine zH ?_ | refine zD ?_ _)); exact BK1288.out)) : gb1288 ≠ gb1289)); have n6_ := zA ((by rw [hg]; exact Nat.ne_of_gt (blk_lt (g := gb1288) (o := .cells #[.int .i64 a0_0, .int .i64 a0_1] 82 (0, 0)) (by (with_reducible repeat (first | refine zG ?_ _ | refine zH ?_ | refine zD ?_ _)); exact BK1288.out)) : gb1289 ≠ gb1288)); clear BK1288; clear HB; have BK1288 := n0_; have HB := n1_; have BK1289 := n2_; have GW1289 := n3_; have GE1289 := n4_; have NB1288_1289 := n5_; have NB1289_1288 := n6_; clear n0_ n1_ n2_ n3_ n4_ n5_ n6_; clear hb hbox hg; have hnb12 := NB1288_1289.out; have hnc12 := NB1289_1288.out; have hcz13_0 : w11.cell? ⟨gb1288, 0, none⟩ = some (.int .i64 a0_0) := (zK BK1288.out 0).trans rfl; have hcz13_1 : w11.cell? ⟨gb1288, 1, none⟩ = some (.int .i64 a0_1) := (zK BK1288.out 1).trans rfl; have hfz13_0 := zJ BK1288.out 0; have hfz13_1 := zJ BK1288.out 1; have hcz14_0 : w11.cell? ⟨gb1289, 0, none⟩ = some (.int .i64 a1_0) := (zK BK1289.out 0).trans rfl; have hcz14_1 : w11.cell? ⟨gb1289, 1, none⟩ = some (.int .i64 a1_1) := (zK BK1289.out 1).trans rfl; have hfz14_0 := zJ BK1289.out 0; have hfz14_1 := zJ BK1289.out 1))
   go_ret
   exact ⟨by first | rfl | (simp [errW_none, errW_some] <;> rfl) | (simp [*, errW_none, errW_some] <;> rfl), by repeat (first | (with_reducible first | exact HB.out | apply zC | apply zB | apply zF | refine zE ?_ GE1288.out | refine zE ?_ GE1289.out) | exact HB.out)⟩
 ·rw [if_neg c3] at H
  have c3b0 : (a0_0 == a1_0) = false := beq_eq_false_iff_ne.mpr c3
  have c3b1 : (a0_0 != a1_0) = true := bne_iff_ne.mpr c3
  obtain rfl := Option.some.inj H
  go_enter Try.func140, Try.ntmps140
  go_wp2_with (first | ((with_reducible refine gate_dst (N := 2) rfl ?_); refine box_event ?hg (N := 2) ?hd (cs := #[.int .i64 a0_0, .int .i64 a0_1]) (t := 82) ?hr ?_; (case hd => rfl); (case hg => rfl); (case hr => first | (go_simp; done) | (go_simp; rfl)); intro gb1288 hg w15 hbox hb; have n0_ := zA (below_step (by repeat (first | (with_reducible first | exact HB.out | apply zC | apply zB | apply zF) | exact HB.out)) hb); have n1_ := zA (hbox); have n2_ := zA ((by rw [hg]; exact (zL (by repeat (first | (with_reducible first | exact HB.out | apply zC | apply zB | apply zF) | exact HB.out))) : w.heap.size ≤ gb1288)); have n3_ := zA ((by rw [hg]; exact (zL (by repeat (first | (with_reducible first | exact HB.out | apply zC | apply zB | apply zF) | exact HB.out))) : w.heap.size ≤ gb1288)); clear HB; have HB := n0_; have BK1288 := n1_; have GW1288 := n2_; have GE1288 := n3_; clear n0_ n1_ n2_ n3_; clear hb hbox hg) | ((with_reducible refine gate_dst (N := 3) rfl ?_); refine box_event ?hg (N := 3) ?hd (cs := #[.int .i64 a1_0, .int .i64 a1_1]) (t := 82) ?hr ?_; (case hd => rfl); (case hg => rfl); (case hr => first | (go_simp; done) | (go_simp; rfl)); intro gb1289 hg w16 hbox hb; have n0_ := zA (blk_below (g := gb1288) (o := .cells #[.int .i64 a0_0, .int .i64 a0_1] 82 (0, 0)) (by (with_reducible repeat (first | refine zG ?_ _ | refine zH ?_ | refine zD ?_ _)); exact BK1288.out) hb); have n1_ := zA (below_step (by repeat (first | (with_reducible first | exact HB.out | apply zC | apply zB | apply zF | refine zE ?_ GE1288.out) | exact HB.out)) hb); have n2_ := zA (hbox); have n3_ := zA ((by rw [hg]; exact (zL (by repeat (first | (with_reducible first | exact HB.out | apply zC | apply zB | apply zF | refine zE ?_ GE1288.out) | exact HB.out))) : w.heap.size ≤ gb1289)); have n4_ := zA ((by rw [hg]; exact (zL (by repeat (first | (with_reducible first | exact HB.out | apply zC | apply zB | apply zF | refine zE ?_ GE1288.out) | exact HB.out))) : w.heap.size ≤ gb1289)); have n5_ := zA ((by rw [hg]; exact Nat.ne_of_lt (blk_lt (g := gb1288) (o := .cells #[.int .i64 a0_0, .int .i64 a0_1] 82 (0, 0)) (by (with_reducible repeat (first | refine zG ?_ _ | refine zH ?_ | refine zD ?_ _)); exact BK1288.out)) : gb1288 ≠ gb1289)); have n6_ := zA ((by rw [hg]; exact Nat.ne_of_gt (blk_lt (g := gb1288) (o := .cells #[.int .i64 a0_0, .int .i64 a0_1] 82 (0, 0)) (by (with_reducible repeat (first | refine zG ?_ _ | refine zH ?_ | refine zD ?_ _)); exact BK1288.out)) : gb1289 ≠ gb1288)); clear BK1288; clear HB; have BK1288 := n0_; have HB := n1_; have BK1289 := n2_; have GW1289 := n3_; have GE1289 := n4_; have NB1288_1289 := n5_; have NB1289_1288 := n6_; clear n0_ n1_ n2_ n3_ n4_ n5_ n6_; clear hb hbox hg; have hnb17 := NB1288_1289.out; have hnc17 := NB1289_1288.out; have hcz18_0 : w16.cell? ⟨gb1288, 0, none⟩ = some (.int .i64 a0_0) := (zK BK1288.out 0).trans rfl; have hcz18_1 : w16.cell? ⟨gb1288, 1, none⟩ = some (.int .i64 a0_1) := (zK BK1288.out 1).trans rfl; have hfz18_0 := zJ BK1288.out 0; have hfz18_1 := zJ BK1288.out 1; have hcz19_0 : w16.cell? ⟨gb1289, 0, none⟩ = some (.int .i64 a1_0) := (zK BK1289.out 0).trans rfl; have hcz19_1 : w16.cell? ⟨gb1289, 1, none⟩ = some (.int .i64 a1_1) := (zK BK1289.out 1).trans rfl; have hfz19_0 := zJ BK1289.out 0; have hfz19_1 := zJ BK1289.out 1))
  go_ret
  exact ⟨by first | rfl | (simp [errW_none, errW_some] <;> rfl) | (simp [*, errW_none, errW_some] <;> rfl), by repeat (first | (with_reducible first | exact HB.out | apply zC | apply zB | apply zF | refine zE ?_ GE1288.out | refine zE ?_ GE1289.out) | exact HB.out)⟩
end Go.Proofs.Ytilimpjcdeeaiaa.G


namespace Go.Proofs.Ytilimpjcdeeaiaa.G
open Go.RowKit Go.Proofs.YtilimpjcdeeaiaaW.PrintWords Go.Proofs.YtilimpjcdeeaiaaW.PrintLast Go.Proofs.YtilimpjcdeeaiaaW.PrintMore
attribute [local go_sem] max2_int min2_int max_two min_two max_three min_three max_four min_four   -- for this text's walks alone
/-- two feeds are the same (told where they are) -/
def laws_eqFeed.f (k : Nat) (l0_0 : List Int) (a0_1 : Int) (a0_2 : Bool) (a0_3 : Int) (a0_4 : Int) (l1_0 : List Int) (a1_1 : Int) (a1_2 : Bool) (a1_3 : Int) (a1_4 : Int) : Option Bool :=
 if a0_1 = a1_1 ∧ a0_2 = a1_2 ∧ a0_3 = a1_3 ∧ a0_4 = a1_4 then ((laws_eqByteS.f k l0_0 l1_0).bind fun t => (if t = true then (some true) else none)) else none
theorem laws_eqFeed.mono : ∀ a0 a1 a2 a3 a4 a5 a6 a7 a8 a9 k, LeO (laws_eqFeed.f k a0 a1 a2 a3 a4 a5 a6 a7 a8 a9) (laws_eqFeed.f (k + 1) a0 a1 a2 a3 a4 a5 a6 a7 a8 a9) := by
 intro a0 a1 a2 a3 a4 a5 a6 a7 a8 a9 k
 unfold laws_eqFeed.f
 exact LeO.ite (LeO.bind (laws_eqByteS.mono _ _ _) (fun _ => LeO.refl _)) (LeO.none _)
set_option maxRecDepth 100000 in
theorem laws_eqFeed.calls (k : Nat) (A0_0 : Option Addr) (c0_0 : Nat) (l0_0 : List Int) (a0_1 : Int) (a0_2 : Bool) (a0_3 : Int) (a0_4 : Int) (A1_0 : Option Addr) (c1_0 : Nat) (l1_0 : List Int) (a1_1 : Int) (a1_2 : Bool) (a1_3 : Int) (a1_4 : Int) (r : Bool) (w : World) (hr0_0 : Kd.C (Kd.int .u8) w A0_0 l0_0.length l0_0) (hc0_0 : l0_0.length ≤ c0_0) (hr1_0 : Kd.C (Kd.int .u8) w A1_0 l1_0.length l1_0) (hc1_0 : l1_0.length ≤ c1_0) (h : laws_eqFeed.f k l0_0 a0_1 a0_2 a0_3 a0_4 l1_0 a1_1 a1_2 a1_3 a1_4 = some r) :
  Calls Try.prog 103 #[.agg #[.slice A0_0 l0_0.length c0_0, .int .i64 a0_1, .bool a0_2, .int .i64 a0_3, .int .i64 a0_4], .agg #[.slice A1_0 l1_0.length c1_0, .int .i64 a1_1, .bool a1_2, .int .i64 a1_3, .int .i64 a1_4]] w fun e w' => e = .returned (.bool r) ∧ Below w.heap.size w w' := by
 unfold laws_eqFeed.f at h
 split at h
 ·rename_i hc
  obtain ⟨rfl, rfl, rfl, rfl⟩ := hc
  obtain ⟨t, ht, h⟩ := Option.bind_eq_some_iff.1 h
  split at h
  ·rename_i he
   subst he
   cases h
   have HE := zA ht
   have HR0 := zA hr0_0
   have HR1 := zA hr1_0
   have HC0 := zA hc0_0
   have HC1 := zA hc1_0
   clear ht hr0_0 hr1_0 hc0_0 hc1_0
   go_enter Try.func103, Try.ntmps103
   go_upto_region 1 with (fail)
   have hq1 := zD (blk_new w (Obj.cells #[.slice A0_0 l0_0.length c0_0, .int .i64 a0_1, .bool a0_2, .int .i64 a0_3, .int .i64 a0_4] 84)) (Obj.cells #[.slice A1_0 l1_0.length c1_0, .int .i64 a0_1, .bool a0_2, .int .i64 a0_3, .int .i64 a0_4] 84)
   have hq2 := blk_new (w.alloc (Obj.cells #[.slice A0_0 l0_0.length c0_0, .int .i64 a0_1, .bool a0_2, .int .i64 a0_3, .int .i64 a0_4] 84)) (Obj.cells #[.slice A1_0 l1_0.length c1_0, .int .i64 a0_1, .bool a0_2, .int .i64 a0_3, .int .i64 a0_4] 84)
   rw [yD] at hq2
   have HB1 := zA (zC (zC (Below.refl w.heap.size w) (Obj.cells #[.slice A0_0 l0_0.length c0_0, .int .i64 a0_1, .bool a0_2, .int .i64 a0_3, .int .i64 a0_4] 84)) (Obj.cells #[.slice A1_0 l1_0.length c1_0, .int .i64 a0_1, .bool a0_2, .int .i64 a0_3, .int .i64 a0_4] 84))
   generalize w.heap.size + 1 = g2 at hq2 ⊢
   generalize w.heap.size = g1 at hq1 ⊢
   generalize (w.alloc (Obj.cells #[.slice A0_0 l0_0.length c0_0, .int .i64 a0_1, .bool a0_2, .int .i64 a0_3, .int .i64 a0_4] 84)).alloc (Obj.cells #[.slice A1_0 l1_0.length c1_0, .int .i64 a0_1, .bool a0_2, .int .i64 a0_3, .int .i64 a0_4] 84) = W1 at hq1 hq2 HB1 ⊢
   have HQ1 := zA hq1
   have HQ2 := zA hq2
   have p0 := zK hq1 0
   have q0 := zK hq2 0
   simp at p0 q0
   clear hq1 hq2
   go_wp2_with fail
   refine (laws_eqByteS.calls k A0_0 c0_0 l0_0 A1_0 c1_0 l1_0 true _ (Kd.C_below HR0.out HB1.out) HC0.out (Kd.C_below HR1.out HB1.out) HC1.out HE.out).mono ?_
   rintro e_ w_ ⟨rfl, ⟨nd, rfl⟩⟩
   clear p0 q0
   have HB2 := zA (zB HB1.out nd)
   have HQ3 := zA (show (W1.drewN nd).heap[g1]? = some (.cells #[.slice A0_0 l0_0.length c0_0, .int .i64 a0_1, .bool a0_2, .int .i64 a0_3, .int .i64 a0_4] 84 (0, 0)) from HQ1.out)
   have HQ4 := zA (show (W1.drewN nd).heap[g2]? = some (.cells #[.slice A1_0 l1_0.length c1_0, .int .i64 a0_1, .bool a0_2, .int .i64 a0_3, .int .i64 a0_4] 84 (0, 0)) from HQ2.out)
   generalize W1.drewN nd = W2 at HB2 HQ3 HQ4 ⊢
   have p1 := zK HQ3.out 1
   have p2 := zK HQ3.out 2
   have p3 := zK HQ3.out 3
   have p4 := zK HQ3.out 4
   have q1 := zK HQ4.out 1
   have q2 := zK HQ4.out 2
   have q3 := zK HQ4.out 3
   have q4 := zK HQ4.out 4
   simp at p1 p2 p3 p4 q1 q2 q3 q4
   clear HQ1 HQ2 HQ3 HQ4
   go_wp2_with fail
   refine (laws_eqFault.calls a0_3 a0_4 a0_3 a0_4 true _ (by unfold laws_eqFault.f; rw [if_pos rfl, if_pos rfl])).mono ?_
   rintro e_ w3 ⟨rfl, hb3⟩
   have HB3 := zA (Below.trans HB2.out (hb3.mono HB2.out.size))
   clear hb3 p1 p2 p3 p4 q1 q2 q3 q4
   go_wp2
   go_ret
   exact ⟨rfl, HB3.out⟩
  ·cases h
 ·cases h
theorem eqFeed_ev (l : List Int) (n : Int) (o : Bool) (fc fa : Int) (h : l.length ≤ 1048576) : Ev (fun k => laws_eqFeed.f k l n o fc fa l n o fc fa) true := by
 unfold laws_eqFeed.f
 exact Ev.ip ⟨rfl, rfl, rfl, rfl⟩ (Ev.bind (laws_eqByteS.T l h) (Ev.ip rfl (Ev.now _)))
end Go.Proofs.Ytilimpjcdeeaiaa.G


namespace Go.Proofs.Ytilimpjcdeeaiaa.G
open Go.RowKit Go.Proofs.YtilimpjcdeeaiaaW.PrintWords Go.Proofs.YtilimpjcdeeaiaaW.PrintLast Go.Proofs.YtilimpjcdeeaiaaW.PrintMore
attribute [local go_sem] max2_int min2_int max_two min_two max_three min_three max_four min_four   -- for this text's walks alone
def laws_szIntS.f (l0 : List Int) (a1 : Int) : Option (Int) := if (wrap64 (a1 - (l0.length : Int))) < 0 then (some (-1)) else (some (wrap64 (a1 - (l0.length : Int))))
set_option maxHeartbeats 8000000 in
set_option maxRecDepth 100000 in
theorem laws_szIntS.calls (A0 : Option Addr) (c0 : Nat) (l0 : List Int) (a1 : Int) (r : Int) (w : World) (hr0 : Kd.C (Kd.int .i64) w A0 l0.length l0) (hc0 : l0.length ≤ c0) (h : laws_szIntS.f l0 a1 = some r) :
  Calls Try.prog 156 #[.slice A0 l0.length c0, .int .i64 a1] w fun e w' => e = .returned (.int .i64 r) ∧ Drawn0 w w' := by
 have HR0 := zA hr0
 have HC0 := zA hc0
 clear hr0 hc0
 have H : (if (wrap64 (a1 - (l0.length : Int))) < 0 then (some (-1)) else (some (wrap64 (a1 - (l0.length : Int))))) = some r := h
 clear h
 by_cases c3 : (wrap64 (a1 - (l0.length : Int))) < 0
 ·rw [if_pos c3] at H
  have c3b0 : decide ((wrap64 (a1 - (l0.length : Int))) < 0) = true := zT c3
  clear c3
  obtain rfl := Option.some.inj H
  go_enter Try.func156, Try.ntmps156
  go_wp2
  go_ret
  exact ⟨by first | rfl | (simp; done) | (simp [*]; done), by repeat (first | exact Drawn0.refl _ | apply Drawn0.step)⟩
 ·rw [if_neg c3] at H
  have c3b0 : decide ((wrap64 (a1 - (l0.length : Int))) < 0) = false := decide_eq_false c3
  clear c3
  obtain rfl := Option.some.inj H
  go_enter Try.func156, Try.ntmps156
  go_wp2
  go_ret
  exact ⟨by first | rfl | (simp; done) | (simp [*]; done), by repeat (first | exact Drawn0.refl _ | apply Drawn0.step)⟩
end Go.Proofs.Ytilimpjcdeeaiaa.G


namespace Go.Proofs.Ytilimpjcdeeaiaa.G
open Go.RowKit Go.Proofs.YtilimpjcdeeaiaaW.PrintWords Go.Proofs.YtilimpjcdeeaiaaW.PrintLast Go.Proofs.YtilimpjcdeeaiaaW.PrintMore
attribute [local go_sem] max2_int min2_int max_two min_two max_three min_three max_four min_four   -- for this text's walks alone
def laws_szIntSS.l0 : Nat → List (List Int) → Int → Int → Option (Int)
 | 0, _, _, _ => none
 | k + 1, x0, x1, x5 => if x5 < (x0.length : Int) then (if 0 ≤ x5 then ((laws_szIntS.f (rd_L3 x0 x5) x1).bind fun t995 => (if t995 < 0 then (some (-1)) else (laws_szIntSS.l0 k x0 t995 (wrap64 (x5 + 1))))) else (none)) else (some x1)
def laws_szIntSS.f (k : Nat) (l0 : List (List Int)) (a1 : Int) : Option (Int) := if (wrap64 (a1 - (l0.length : Int))) < 0 then (some (-1)) else (laws_szIntSS.l0 k l0 (wrap64 (a1 - (l0.length : Int))) 0)
theorem laws_szIntSS.mono_l : ∀ k, (∀ y0 y1 y2, LeO (laws_szIntSS.l0 k y0 y1 y2) (laws_szIntSS.l0 (k + 1) y0 y1 y2))
 | 0 => fun _ _ _ r h => by simp [laws_szIntSS.l0] at h
 | k + 1 => by
  have ih0 := laws_szIntSS.mono_l k
  ·intro y0 y1 y2
   unfold laws_szIntSS.l0
   repeat' first
   | (with_reducible exact ih0 _ _ _)
   | (with_reducible exact LeO.refl _)
   | (with_reducible exact LeO.none _)
   | (with_reducible refine LeO.ite ?_ ?_)
   | (with_reducible refine LeO.bind ?_ (fun _ => ?_))
   | exact ih0 _ _ _
   | exact LeO.none _
   | refine LeO.ite ?_ ?_
   | refine LeO.bind ?_ (fun _ => ?_)
theorem laws_szIntSS.mono : ∀ a0 a1 k, LeO (laws_szIntSS.f k a0 a1) (laws_szIntSS.f (k + 1) a0 a1) := by
 intro a0 a1 k
 have ih0 := laws_szIntSS.mono_l k
 unfold laws_szIntSS.f
 repeat' first
   | (with_reducible exact ih0 _ _ _)
   | (with_reducible exact LeO.refl _)
   | (with_reducible exact LeO.none _)
   | (with_reducible refine LeO.ite ?_ ?_)
   | (with_reducible refine LeO.bind ?_ (fun _ => ?_))
   | exact ih0 _ _ _
   | exact LeO.none _
   | refine LeO.ite ?_ ?_
   | refine LeO.bind ?_ (fun _ => ?_)
set_option maxHeartbeats 8000000 in
set_option maxRecDepth 100000 in
theorem laws_szIntSS.calls (k : Nat) (A0 : Option Addr) (c0 : Nat) (l0 : List (List Int)) (a1 : Int) (r : Int) (w : World) (hr0 : Kd.C (Kd.slice 3 (Kd.int .i64)) w A0 l0.length l0) (hc0 : l0.length ≤ c0) (h : laws_szIntSS.f k l0 a1 = some r) :
  Calls Try.prog 125 #[.slice A0 l0.length c0, .int .i64 a1] w fun e w' => e = .returned (.int .i64 r) ∧ Drawn0 w w' := by
 have HR0 := zA hr0
 have HC0 := zA hc0
 clear hr0 hc0
 have H : (if (wrap64 (a1 - (l0.length : Int))) < 0 then (some (-1)) else (laws_szIntSS.l0 k l0 (wrap64 (a1 - (l0.length : Int))) 0)) = some r := h
 clear h
 by_cases c3 : (wrap64 (a1 - (l0.length : Int))) < 0
 ·rw [if_pos c3] at H
  have c3b0 : decide ((wrap64 (a1 - (l0.length : Int))) < 0) = true := zT c3
  clear c3
  obtain rfl := Option.some.inj H
  go_enter Try.func125, Try.ntmps125
  go_wp2
  go_ret
  exact ⟨by first | rfl | (simp; done) | (simp [*]; done), by repeat (first | exact Drawn0.refl _ | apply Drawn0.step)⟩
 ·rw [if_neg c3] at H
  have c3b0 : decide ((wrap64 (a1 - (l0.length : Int))) < 0) = false := decide_eq_false c3
  clear c3
  have H' := zA H
  clear H
  go_enter Try.func125, Try.ntmps125
  go_wp2
  go_loopg [1, 5] k (fun kq v1 v5 w' => ∃ (x1_1 : Int) (x5_1 : Int), v1 = .int .i64 x1_1 ∧ v5 = .int .i64 x5_1 ∧ Aside0 (laws_szIntSS.l0 kq l0 x1_1 x5_1 = some r) ∧ Aside0 (kq ≤ k) ∧ Drawn0 w w')
  case atStart => exact ⟨(wrap64 (a1 - (l0.length : Int))), (0), (by first | rfl | (simp; done) | (simp [*]; done)), (by first | rfl | (simp; done) | (simp [*]; done)), H', ⟨Nat.le_refl _⟩, by repeat (first | exact Drawn0.refl _ | apply Drawn0.step)⟩
  case round =>
   clear H'
   try clear c1
   try clear p2
   try clear c3
   try clear c3b0
   obtain ⟨x1_1, x5_1, rfl, rfl, HA, HK1, ⟨m1, rfl⟩⟩ := hrel
   cases gk with
   | zero => exact absurd HA.out (by simp [laws_szIntSS.l0])
   | succ k1 =>
    have H := HA.out
    clear HA
    simp only [laws_szIntSS.l0] at H
    by_cases c4 : x5_1 < (l0.length : Int)
    ·rw [if_pos c4] at H
     have c4b0 : decide (x5_1 < (l0.length : Int)) = true := zT c4
     clear c4
     by_cases c5 : 0 ≤ x5_1
     ·rw [if_pos c5] at H
      have c5b0 : decide (0 ≤ x5_1) = true := zT c5
      clear c5
      replace H := Option.bind_eq_some_iff.mp H
      obtain ⟨t995, A60, H⟩ := H
      replace H : (if t995 < 0 then (some (-1)) else (laws_szIntSS.l0 k1 l0 t995 (wrap64 (x5_1 + 1)))) = some r := H
      have A6 := zA A60
      clear A60
      by_cases c7 : t995 < 0
      ·rw [if_pos c7] at H
       have c7b0 : decide (t995 < 0) = true := zT c7
       clear c7
       obtain rfl := Option.some.inj H
       have p994 : 0 ≤ (x5_1 : Int) := zI (by first | (with_reducible assumption) | assumption)
       have q994 : x5_1 < (l0.length : Int) := zI (by first | (with_reducible assumption) | assumption)
       obtain ⟨ad994, A994_0, c994_0, e994, hx994_0, hl994_0, hi994_0⟩ := at_L3 HR0.out x5_1 p994 q994
       cases e994
       have HR994_0 := zA hi994_0
       have HC994_0 := zA hl994_0
       clear hi994_0 hl994_0
       replace p994 := eq_true p994
       replace q994 := eq_true q994
       go_wp2_with (first | ((with_reducible refine gate_callee (f := 156) rfl ?_); refine goesL_ (some 23) rfl rfl Try.func156 (by kernel_rfl) rfl #[.slice A994_0 (rd_L3 l0 x5_1).length c994_0, .int .i64 x1_1] rfl (by (try simp only [zU, zV, zW]); first | done | rfl | (simp only [zR, zQ]; rfl)) ?_; (with_reducible refine (laws_szIntS.calls _ _ (rd_L3 l0 x5_1) x1_1 t995 _ ?side1 ?side2 A6.out).mono ?_); (case side1 => repeat (first | exact HR994_0.out | (with_reducible refine yH ?_ _) | (with_reducible refine yF ?_ _) | (with_reducible refine yG ?_))); (case side2 => exact HC994_0.out); rintro e w' ⟨rfl, ⟨nd, rfl⟩⟩; refine ⟨_, rfl, ?_⟩))
       go_ret
       exact ⟨by first | rfl | (simp; done) | (simp [*]; done), by repeat (first | exact Drawn0.refl _ | apply Drawn0.step)⟩
      ·rw [if_neg c7] at H
       have c7b0 : decide (t995 < 0) = false := decide_eq_false c7
       clear c7
       have H' := zA H
       clear H
       have p994 : 0 ≤ (x5_1 : Int) := zI (by first | (with_reducible assumption) | assumption)
       have q994 : x5_1 < (l0.length : Int) := zI (by first | (with_reducible assumption) | assumption)
       obtain ⟨ad994, A994_0, c994_0, e994, hx994_0, hl994_0, hi994_0⟩ := at_L3 HR0.out x5_1 p994 q994
       cases e994
       have HR994_0 := zA hi994_0
       have HC994_0 := zA hl994_0
       clear hi994_0 hl994_0
       replace p994 := eq_true p994
       replace q994 := eq_true q994
       go_wp2_with (first | ((with_reducible refine gate_callee (f := 156) rfl ?_); refine goesL_ (some 23) rfl rfl Try.func156 (by kernel_rfl) rfl #[.slice A994_0 (rd_L3 l0 x5_1).length c994_0, .int .i64 x1_1] rfl (by (try simp only [zU, zV, zW]); first | done | rfl | (simp only [zR, zQ]; rfl)) ?_; (with_reducible refine (laws_szIntS.calls _ _ (rd_L3 l0 x5_1) x1_1 t995 _ ?side1 ?side2 A6.out).mono ?_); (case side1 => repeat (first | exact HR994_0.out | (with_reducible refine yH ?_ _) | (with_reducible refine yF ?_ _) | (with_reducible refine yG ?_))); (case side2 => exact HC994_0.out); rintro e w' ⟨rfl, ⟨nd, rfl⟩⟩; refine ⟨_, rfl, ?_⟩))
       go_roundg k1
       case measure => have := HK1.out; omega
       case rel => exact ⟨(t995), (wrap64 (x5_1 + 1)), (by first | rfl | (simp; done) | (simp [*]; done)), (by first | rfl | (simp; done) | (simp [*]; done)), H', ⟨by have := HK1.out; omega⟩, by repeat (first | exact Drawn0.refl _ | apply Drawn0.step)⟩
     ·rw [if_neg c5] at H
      exact absurd H (by simp)
    ·rw [if_neg c4] at H
     have c4b0 : decide (x5_1 < (l0.length : Int)) = false := decide_eq_false c4
     clear c4
     obtain rfl := Option.some.inj H
     go_wp2
     go_ret
     exact ⟨by first | rfl | (simp; done) | (simp [*]; done), by repeat (first | exact Drawn0.refl _ | apply Drawn0.step)⟩
theorem laws_szIntS.val (l : List Int) (a : Int) (h0 : 0 ≤ a) (h1 : a ≤ 1048576) (hl : l.length ≤ 9223372036854775807) : ∃ r, laws_szIntS.f l a = some r ∧ r ≤ a ∧ (0 ≤ r → (l.length : Int) ≤ a) := by
 unfold laws_szIntS.f
 rw [wrap_in _ (by omega) (by omega)]
 by_cases h : a - (l.length : Int) < 0
 ·exact ⟨_, if_pos h, by omega, by omega⟩
 ·exact ⟨_, if_neg h, by omega, by omega⟩
theorem laws_szIntSS.ev (l : List (List Int)) (a : Int) (h0 : 0 ≤ a) (h1 : a ≤ 1048576) (hl : l.length ≤ 9223372036854775807) (hx : ∀ x ∈ l, x.length ≤ 9223372036854775807) : ∃ r, Ev (fun k => laws_szIntSS.f k l a) r ∧ r ≤ a ∧ (0 ≤ r → l.length ≤ 1048576 ∧ ∀ x ∈ l, x.length ≤ 1048576) := by
 unfold laws_szIntSS.f
 rw [wrap_in _ (by omega) (by omega)]
 by_cases h : a - (l.length : Int) < 0
 ·exact ⟨_, Ev.ip h (Ev.now _), by omega, by omega⟩
 ·have key : ∀ d i : Nat, ∀ b : Int, l.length - i = d → i ≤ l.length → 0 ≤ b → b ≤ 1048576 → ∃ r, Ev (fun k => laws_szIntSS.l0 k l b (i : Int)) r ∧ r ≤ b ∧ (0 ≤ r → ∀ x ∈ l.drop i, x.length ≤ 1048576) := by
   intro d
   induction d with
   | zero =>
    intro i b hd hi hb0 hb1
    exact ⟨b, Ev.step (fun _ => by rw [laws_szIntSS.l0]) (Ev.ng (by omega) (Ev.now _)), by omega, fun _ x hx => by rw [List.drop_of_length_le (by omega)] at hx; cases hx⟩
   | succ d ih =>
    intro i b hd hi hb0 hb1
    have hlt : i < l.length := by omega
    obtain ⟨q, hq, hqb, hq0⟩ := laws_szIntS.val l[i] b hb0 hb1 (hx _ (List.getElem_mem _))
    by_cases hneg : q < 0
    ·refine ⟨-1, Ev.step (fun _ => by rw [laws_szIntSS.l0]) (Ev.ip (by omega) (Ev.ip (by omega) ?_)), by omega, by omega⟩
     rw [show rd_L3 l (i : Int) = l[i] by simp [rd_L3, hlt]]
     exact Ev.bind (Ev.c hq) (Ev.ip hneg (Ev.now _))
    ·obtain ⟨r, hr, hrb, hr0⟩ := ih (i + 1) q (by omega) (by omega) (by omega) (by omega)
     refine ⟨r, Ev.step (fun _ => by rw [laws_szIntSS.l0]) (Ev.ip (by omega) (Ev.ip (by omega) ?_)), by omega, fun h0r x hxm => ?_⟩
     ·rw [show rd_L3 l (i : Int) = l[i] by simp [rd_L3, hlt], wrap_succ i (by omega)]
      exact Ev.bind (Ev.c hq) (Ev.ng hneg hr)
     ·rw [List.drop_eq_getElem_cons hlt] at hxm
      rcases List.mem_cons.1 hxm with rfl | hxm
      ·have := hq0 (by omega); omega
      ·exact hr0 h0r x hxm
  obtain ⟨r, hr, hrb, hr0⟩ := key _ 0 (a - l.length) rfl (by omega) (by omega) (by omega)
  refine ⟨r, Ev.ng h hr, by omega, fun h0r => ⟨by omega, ?_⟩⟩
  simpa using hr0 h0r
end Go.Proofs.Ytilimpjcdeeaiaa.G


namespace Go.Proofs.Ytilimpjcdeeaiaa.G
open Go.RowKit Go.Proofs.YtilimpjcdeeaiaaW.PrintWords Go.Proofs.YtilimpjcdeeaiaaW.PrintLast Go.Proofs.YtilimpjcdeeaiaaW.PrintMore
attribute [local go_sem] max2_int min2_int max_two min_two max_three min_three max_four min_four   -- for this text's walks alone
def laws_toIntS.l0 : Nat → List Int → List Int → Int → Option (List Int)
 | 0, _, _, _ => none
 | k + 1, x0, x3, x4 => if x4 < (x0.length : Int) then (if 0 ≤ x4 then (if x4 < (x3.length : Int) then (laws_toIntS.l0 k x0 (x3.set (x4 : Int).toNat (rd x0 x4)) (wrap64 (x4 + 1))) else (none)) else (none)) else (some x3)
def laws_toIntS.f (k : Nat) (l0 : List Int) : Option (List Int) := if 0 ≤ (l0.length : Int) then (if ((l0.length : Int) : Int).toNat ≤ 35184372088832 then (laws_toIntS.l0 k l0 (List.replicate ((l0.length : Int) : Int).toNat 0) 0) else (none)) else (none)
theorem laws_toIntS.mono_l : ∀ k, (∀ y0 y1 y2, LeO (laws_toIntS.l0 k y0 y1 y2) (laws_toIntS.l0 (k + 1) y0 y1 y2))
 | 0 => fun _ _ _ r h => by simp [laws_toIntS.l0] at h
 | k + 1 => by
  have ih0 := laws_toIntS.mono_l k
  ·intro y0 y1 y2
   unfold laws_toIntS.l0
   repeat' first
   | (with_reducible exact ih0 _ _ _)
   | (with_reducible exact LeO.refl _)
   | (with_reducible exact LeO.none _)
   | (with_reducible refine LeO.ite ?_ ?_)
   | (with_reducible refine LeO.bind ?_ (fun _ => ?_))
   | exact ih0 _ _ _
   | exact LeO.none _
   | refine LeO.ite ?_ ?_
   | refine LeO.bind ?_ (fun _ => ?_)
theorem laws_toIntS.mono : ∀ a0 k, LeO (laws_toIntS.f k a0) (laws_toIntS.f (k + 1) a0) := by
 intro a0 k
 have ih0 := laws_toIntS.mono_l k
 unfold laws_toIntS.f
 repeat' first
   | (with_reducible exact ih0 _ _ _)
   | (with_reducible exact LeO.refl _)
   | (with_reducible exact LeO.none _)
   | (with_reducible refine LeO.ite ?_ ?_)
   | (with_reducible refine LeO.bind ?_ (fun _ => ?_))
   | exact ih0 _ _ _
   | exact LeO.none _
   | refine LeO.ite ?_ ?_
   | refine LeO.bind ?_ (fun _ => ?_)
set_option maxHeartbeats 8000000 in
set_option maxRecDepth 100000 in
theorem laws_toIntS.calls (k : Nat) (A0 : Option Addr) (c0 : Nat) (l0 : List Int) (r : List Int) (w : World) (hr0 : Kd.C (Kd.int .i64) w A0 l0.length l0) (hc0 : l0.length ≤ c0) (h : laws_toIntS.f k l0 = some r) :
  Calls Try.prog 33 #[.slice A0 l0.length c0] w fun e w' => ∃ v0_ : Value, e = .returned (v0_) ∧ Kd.R (Kd.int .i64) 3 w' w.heap.size (fun _ => True) v0_ r ∧ Below w.heap.size w w' := by
 have HR0 := zA hr0
 have HC0 := zA hc0
 clear hr0 hc0
 have HB := zA (Below.refl w.heap.size w)
 have H : (if 0 ≤ (l0.length : Int) then (if ((l0.length : Int) : Int).toNat ≤ 35184372088832 then (laws_toIntS.l0 k l0 (List.replicate ((l0.length : Int) : Int).toNat 0) 0) else (none)) else (none)) = some r := h
 clear h
 by_cases c2 : 0 ≤ (l0.length : Int)
 ·rw [if_pos c2] at H
  have c2b0 := eq_true c2
  have c2b1 : decide (0 ≤ (l0.length : Int)) = true := zT c2
  clear c2
  by_cases c3 : ((l0.length : Int) : Int).toNat ≤ 35184372088832
  ·rw [if_pos c3] at H
   have c3b0 := eq_true c3
   have c3b1 : decide (((l0.length : Int) : Int).toNat ≤ 35184372088832) = true := zT c3
   clear c3
   obtain ⟨y1018, hy1018⟩ : ∃ y_ : List Int, y_ = (List.replicate ((l0.length : Int) : Int).toNat 0) := ⟨_, rfl⟩
   replace H : (laws_toIntS.l0 k l0 y1018 0) = some r := by first | (rw [hy1018]; with_reducible exact H) | (have H2_ := (zS _ _).symm.trans H; rw [hy1018]; with_reducible exact H2_) | (have H2_ := (zS _ _).symm.trans H; with_reducible exact H2_) | with_reducible exact H | (rw [hy1018]; exact H) | exact H
   have Ny1018 := zA hy1018
   clear hy1018
   have H' := zA H
   clear H
   go_enter Try.func33, Try.ntmps33
   go_wp2_with (first | ((with_reducible refine gate_dst (N := 7) rfl ?_); refine Kd.R_make (Kd.int .i64) _ 3 rfl (N := 7) rfl 36 _ _ rfl (l0.length : Int) rfl rfl Try.underlying36 (.int .i64 0) 8 info3 rfl (by decide) (by omega) 0 (ok := fun _ => True) (okp := fun _ => True) rfl (fun _ hk => hk) trivial (zI (by first | (with_reducible assumption) | assumption)) (Nat.le_trans (Nat.mul_le_mul_right _ (zI (by first | (with_reducible assumption) | assumption) : (l0.length : Int).toNat ≤ 35184372088832)) (by omega)) (Below.refl _ _) (Nat.le_refl _) ?_; intro v1019 w4 ho5 hb hg_ hnew_; clear hg_ hnew_; (first | rw [← Ny1018.out] at ho5 | (simp only [Int.reduceToNat] at ho5; rw [← Ny1018.out] at ho5)); have n0_ := zA (Kd.R_lower ho5 (zL (by repeat (first | (with_reducible first | exact HB.out | apply zC | apply zB | apply zF) | exact HB.out)))); have n1_ := zA (below_step (by repeat (first | (with_reducible first | exact HB.out | apply zC | apply zB | apply zF) | exact HB.out)) hb); clear HB; have HO1020 := n0_; have HB := n1_; clear n0_ n1_; clear hb ho5))
   go_loopg [4] k (fun kq v4 w' => ∃ (x3_1 : List Int) (x4_1 : Int), v4 = .int .i64 x4_1 ∧ Aside0 (laws_toIntS.l0 kq l0 x3_1 x4_1 = some r) ∧ Aside0 (kq ≤ k) ∧ Aside0 (Kd.R (Kd.int .i64) 3 w' w.heap.size (fun _ => True) v1019 x3_1) ∧ Aside0 (Below w.heap.size w w'))
   case atStart => exact ⟨(y1018), (0), (by first | rfl | (simp; done) | (simp [*]; done)), H', ⟨Nat.le_refl _⟩, ⟨by (with_reducible repeat (first | apply zN | apply zM | apply zO)); exact HO1020.out⟩, ⟨by repeat (first | (with_reducible first | exact HB.out | apply zC | apply zB | apply zF) | exact HB.out)⟩⟩
   case round =>
    clear H'
    try clear c2
    try clear c2b0
    try clear c2b1
    try clear p2
    try clear c3
    try clear c3b0
    try clear c3b1
    obtain ⟨x3_1, x4_1, rfl, HA, HK1, HO_3, HB⟩ := hrel
    cases gk with
    | zero => exact absurd HA.out (by simp [laws_toIntS.l0])
    | succ k1 =>
     have H := HA.out
     clear HA
     simp only [laws_toIntS.l0] at H
     by_cases c6 : x4_1 < (l0.length : Int)
     ·rw [if_pos c6] at H
      have c6b0 : decide (x4_1 < (l0.length : Int)) = true := zT c6
      clear c6
      by_cases c7 : 0 ≤ x4_1
      ·rw [if_pos c7] at H
       have c7b0 : decide (0 ≤ x4_1) = true := zT c7
       clear c7
       by_cases c8 : x4_1 < (x3_1.length : Int)
       ·rw [if_pos c8] at H
        have c8b0 : decide (x4_1 < (x3_1.length : Int)) = true := zT c8
        clear c8
        obtain ⟨y1022, hy1022⟩ : ∃ y_ : List Int, y_ = (x3_1.set (x4_1 : Int).toNat (rd l0 x4_1)) := ⟨_, rfl⟩
        replace H : (laws_toIntS.l0 k1 l0 y1022 (wrap64 (x4_1 + 1))) = some r := by first | (rw [hy1022]; with_reducible exact H) | (have H2_ := (zS _ _).symm.trans H; rw [hy1022]; with_reducible exact H2_) | (have H2_ := (zS _ _).symm.trans H; with_reducible exact H2_) | with_reducible exact H | (rw [hy1022]; exact H) | exact H
        have Ny1022 := zA hy1022
        clear hy1022
        have H' := zA H
        clear H
        have p1021 : 0 ≤ (x4_1 : Int) := zI (by first | (with_reducible assumption) | assumption)
        have q1021 : x4_1 < (l0.length : Int) := zI (by first | (with_reducible assumption) | assumption)
        obtain ⟨ad1021, e1021, hx1021_0⟩ := Kd.at_int HR0.out x4_1 p1021 q1021
        cases e1021
        replace hx1021_0 := (HB.out.cell (World.block_lt_of_cell? w _ hx1021_0)).trans hx1021_0
        replace p1021 := eq_true p1021
        replace q1021 := eq_true q1021
        have p9 : 0 ≤ (x4_1 : Int) := zI (by first | (with_reducible assumption) | assumption)
        have q9 : (x4_1 : Int) < ((x3_1.length : Int) : Int) := zI (by first | (with_reducible assumption) | assumption)
        obtain ⟨go9, co9, eo9, gb9, gl9, cl9, HG9⟩ := Kd.R_form HO_3.out (by omega)
        (first | cases eo9 | (injection eo9 with ea_ en_ ec_; (first | subst ea_ | (injection ea_ with ea_; subst ea_)); subst ec_; clear en_))
        have GB9 := zA gb9
        have GG9 := zA HG9
        clear gb9 gl9 HG9
        obtain ⟨hx9_0, hf9_0⟩ := Kd.R_celln 0 HO_3.out (x4_1 : Int) p9 q9
        replace p9 := eq_true p9
        replace q9 := eq_true q9
        have HP10 := Kd.R_putg HO_3.out (x4_1 : Int) (rd l0 x4_1)
        go_wp2_with (first | ((with_reducible refine gate_store (t := 3) (p := 20) rfl ?_); refine store_event (t := 3) (p := 20) (v := ?vo_w11) (w1 := (wr.setCell ⟨go9, (x4_1 : Int).toNat, none⟩ (.int .i64 (rd l0 x4_1)))) ?hg ?ho ?hn ?hr ?_; (case ho => rfl); (case hg => rfl); (case hn => rfl); (case hr => first | (go_simp; done) | (go_simp; rfl)); intro w11 hw; have hg : wr.grownBy w11 (some go9) := (by rw [hw]; exact HP10.2); have hp_ : Kd.R (Kd.int .i64) 3 w11 w.heap.size (fun _ => True) (.slice (some ⟨go9, 0, none⟩) x3_1.length co9) y1022 := (by rw [hw, Ny1022.out]; exact HP10.1); clear HP10; have n0_ := zA (hp_); have n1_ := zA ((by rw [hw]; exact zE (HB.out) GB9.out : Below w.heap.size w w11)); clear HO_3; clear HB; have HO_3 := n0_; have HB := n1_; clear n0_ n1_; clear hg hw hp_))
        go_roundg k1
        case measure => have := HK1.out; omega
        case rel => exact ⟨(y1022), (wrap64 (x4_1 + 1)), (by first | rfl | (simp; done) | (simp [*]; done)), H', ⟨by have := HK1.out; omega⟩, ⟨by (with_reducible repeat (first | apply zN | apply zM | apply zO)); exact HO_3.out⟩, ⟨by repeat (first | (with_reducible first | exact HB.out | apply zC | apply zB | apply zF) | exact HB.out)⟩⟩
       ·rw [if_neg c8] at H
        exact absurd H (by simp)
      ·rw [if_neg c7] at H
       exact absurd H (by simp)
     ·rw [if_neg c6] at H
      have c6b0 : decide (x4_1 < (l0.length : Int)) = false := decide_eq_false c6
      clear c6
      obtain rfl := Option.some.inj H
      go_wp2
      go_ret
      exact ⟨_, by first | rfl | (simp [errW_none, errW_some] <;> rfl) | (simp [*, errW_none, errW_some] <;> rfl), by (with_reducible repeat (first | apply zN | apply zM | apply zO)); exact HO_3.out, by repeat (first | (with_reducible first | exact HB.out | apply zC | apply zB | apply zF) | exact HB.out)⟩
  ·rw [if_neg c3] at H
   exact absurd H (by simp)
 ·rw [if_neg c2] at H
  exact absurd H (by simp)
theorem laws_toIntS.go (l : List Int) (hm : l.length ≤ 35184372088832) (d : Nat) : ∀ (i k : Nat), l.length - i = d → i ≤ l.length → d < k →
  laws_toIntS.l0 k l (l.take i ++ List.replicate (l.length - i) 0) (i : Int) = some l := by
 induction d with
 | zero =>
  intro i k hd hi' hk
  obtain ⟨k, rfl⟩ : ∃ m, k = m + 1 := ⟨k - 1, by omega⟩
  obtain rfl : i = l.length := by omega
  simp only [laws_toIntS.l0]
  rw [if_neg (by omega)]
  simp
 | succ d ih =>
  intro i k hd hi' hk
  obtain ⟨k, rfl⟩ : ∃ m, k = m + 1 := ⟨k - 1, by omega⟩
  have hlt : i < l.length := by omega
  simp only [laws_toIntS.l0]
  rw [if_pos (by omega), if_pos (by omega), if_pos (by simp; omega)]
  have hrd : rd l (i : Int) = l[i] := by simp [rd, hlt]
  have hw : wrap64 ((i : Int) + 1) = ((i + 1 : Nat) : Int) := by unfold wrap64; omega
  rw [hrd, hw]
  have hs : (l.take i ++ List.replicate (l.length - i) 0).set ((i : Int)).toNat l[i] = l.take (i + 1) ++ List.replicate (l.length - (i + 1)) 0 := by
   rw [Int.toNat_natCast, show l.length - i = (l.length - (i + 1)) + 1 by omega, List.replicate_succ, List.take_succ_eq_append_getElem hlt, List.append_assoc]
   rw [List.set_append_right _ _ (by simp; omega)]
   simp [Nat.min_eq_left (Nat.le_of_lt hlt)]
  rw [hs, ih (i + 1) k (by omega) (by omega) (by omega)]
theorem laws_toIntS.ev (l : List Int) (hm : l.length ≤ 35184372088832) : ∃ k, laws_toIntS.f k l = some l :=
 ⟨l.length + 1, by unfold laws_toIntS.f; rw [if_pos (by omega), if_pos (by omega)]; have := laws_toIntS.go l hm l.length 0 (l.length + 1) (by omega) (by omega) (by omega); simpa using this⟩
theorem laws_toIntS.E (l : List Int) (hm : l.length ≤ 1048576) : Ev (fun k => laws_toIntS.f k l) l := by
 obtain ⟨k, h⟩ := laws_toIntS.ev l (by omega)
 exact Ev.of (fun k => laws_toIntS.mono _ k) h
end Go.Proofs.Ytilimpjcdeeaiaa.G


namespace Go.Proofs.Ytilimpjcdeeaiaa.G
open Go.RowKit Go.Proofs.YtilimpjcdeeaiaaW.PrintWords Go.Proofs.YtilimpjcdeeaiaaW.PrintLast Go.Proofs.YtilimpjcdeeaiaaW.PrintMore
attribute [local go_sem] max2_int min2_int max_two min_two max_three min_three max_four min_four   -- for this text's walks alone
/-- rows that fit -/
def fitSS (l : List (List Int)) : Bool := decide (l.length ≤ 11728124029610) && l.all fun x => decide (x.length ≤ 35184372088832)
def laws_toIntSS.f (l0 : List (List Int)) : Option (List (List Int)) := if fitSS l0 then some l0 else none
def SSI (w : World) (base : Nat) (v : Value) (xs : List (List Int)) : Prop := Kd.S (Kd.slice 3 (Kd.int .i64)) 36 w base (fun _ => True) v xs
theorem laws_toIntSS.calls (A0 : Option Addr) (c0 : Nat) (l0 : List (List Int)) (r : List (List Int)) (w : World) (hr0 : Kd.C (Kd.slice 3 (Kd.int .i64)) w A0 l0.length l0) (hc0 : l0.length ≤ c0) (h : laws_toIntSS.f l0 = some r) :
  Calls Try.prog 127 #[.slice A0 l0.length c0] w fun e w' => ∃ v0_ : Value, e = .returned (v0_) ∧ Kd.S (Kd.slice 3 (Kd.int .i64)) 36 w' w.heap.size (fun _ => True) v0_ r ∧ Below w.heap.size w w' := by
 unfold laws_toIntSS.f at h
 split at h
 ·rename_i hf
  obtain rfl := Option.some.inj h
  clear h
  unfold fitSS at hf
  rw [Bool.and_eq_true, decide_eq_true_eq, List.all_eq_true] at hf
  obtain ⟨hm, hfit0⟩ := hf
  have hfit := zA hfit0
  clear hfit0
  have HR0 := zA hr0
  have HC0 := zA hc0
  clear hr0 hc0
  go_enter Try.func127, Try.ntmps127
  go_wp2_with (first | ((with_reducible refine gate_dst (N := 7) rfl ?_); refine Kd.S_make (Kd.slice 3 (Kd.int .i64)) _ 36 rfl (N := 7) rfl 34 _ _ rfl (l0.length : Int) rfl rfl Try.underlying34 (.slice none 0 0) 24 info36 rfl (by decide) (by omega) [] (ok := fun _ => True) (okp := fun _ => True) ⟨_, rfl, Kd.R_nil _ _ _ _ _⟩ (fun _ hk => hk) trivial (by omega) (by omega) (Below.refl _ _) (Nat.le_refl _) ?_; intro v113 w4 ho5 hb hg_ hnew_; clear hg_ hnew_; have HO := zA ho5; have HB := zA hb; clear ho5 hb))
  go_loopw [4] (fun v4 w' => ∃ i : Nat, v4 = .int .i64 i ∧ i ≤ l0.length ∧ Aside0 (SSI w' w.heap.size v113 (l0.take i ++ List.replicate (l0.length - i) [])) ∧ Aside0 (Below w.heap.size w w')) (fun v4 w' => l0.length - (intOf v4).toNat)
  case atStart => exact ⟨0, rfl, by omega, ⟨by simpa [SSI] using HO.out⟩, HB⟩
  case round =>
   clear HO HB
   obtain ⟨i, rfl, hi, HO, HB⟩ := hrel
   by_cases hlt : i < l0.length
   ·obtain ⟨ad, A1, c1, e1, hx, hl, hi1⟩ := at_L3 HR0.out (i : Int) (by omega) (by omega)
    cases e1
    rw [Int.toNat_natCast] at hx
    replace hx := (HB.out.cell (World.block_lt_of_cell? w _ hx)).trans hx
    have hgl : rd_L3 l0 i = l0[i] := by simp [rd_L3, hlt]
    have HGL := zA hgl
    obtain ⟨k, hk⟩ := laws_toIntS.ev (rd_L3 l0 i) (by rw [hgl]; exact zI (hfit.out _ (List.getElem_mem _)))
    have HK := zA hk
    have HR1 := zA hi1
    have HC1 := zA hl
    have hln : (l0.take i ++ List.replicate (l0.length - i) ([] : List Int)).length = l0.length := by simp; omega
    have HLN := zA hln
    clear hi1 hl hk hgl
    obtain ⟨g, cap, e2, hgb, hgl, _⟩ := Kd.S_form HO.out (by omega)
    rw [hln] at e2
    subst e2
    have HGB := zA hgb
    clear hln hgb hgl
    go_wp2_with (first | (go_at_call 33; (with_reducible refine (laws_toIntS.calls k _ _ (rd_L3 l0 i) _ _ ?side1 ?side2 HK.out).mono ?_); (case side1 => exact Kd.C_below HR1.out HB.out); (case side2 => exact HC1.out); rintro e w11 ⟨v114, rfl, ho0, hb⟩; obtain ⟨A2, c2, e3⟩ := Kd.R_slice ho0; subst e3; have HO2 := zA ho0; have HB2 := zA hb; have HS2 := zA (Kd.S_below HO.out hb); clear ho0 hb; obtain ⟨⟨u, hxc⟩, hxf⟩ := S_cell rfl HS2.out [] (i : Int) (by omega) (by omega); rw [Int.toNat_natCast] at hxc hxf))
    go_roundw
    case rel =>
     refine ⟨i + 1, by go_num, by omega, ⟨?_⟩, ⟨zE (HB.out.trans (HB2.out.mono (HB.out.size))) HGB.out⟩⟩
     have hp := S_put1 (x' := l0[i]) rfl HO.out HB2.out [] (i : Int) (by omega) (by omega) (Kd.M_row (zP (Kd.R_lower (Kd.R_bound (HGL.out ▸ HO2.out)) HB.out.size) (fun k hk => hk.2.1)))
     rw [Int.toNat_natCast, fill_set _ _ _ hlt] at hp
     rw [HGL.out]
     exact hp
    case measure => simp [intOf]; omega
   ·obtain rfl : i = l0.length := by omega
    go_wp2
    go_ret
    exact ⟨_, rfl, by simpa [SSI] using HO.out, HB.out⟩
 ·cases h
theorem laws_toIntSS.val (l0 : List (List Int)) (h1 : l0.length ≤ 1048576) (h2 : ∀ x ∈ l0, x.length ≤ 1048576) : laws_toIntSS.f l0 = some l0 := by
 unfold laws_toIntSS.f
 rw [if_pos]
 simp only [fitSS, Bool.and_eq_true, decide_eq_true_eq, List.all_eq_true]
 exact ⟨by omega, fun x hx => by have := h2 x hx; omega⟩
end Go.Proofs.Ytilimpjcdeeaiaa.G


namespace Go.Proofs.Ytilimpjcdeeaiaa.G
open Go.RowKit Go.Proofs.YtilimpjcdeeaiaaW.PrintWords Go.Proofs.YtilimpjcdeeaiaaW.PrintLast Go.Proofs.YtilimpjcdeeaiaaW.PrintMore
attribute [local go_sem] max2_int min2_int max_two min_two max_three min_three max_four min_four   -- for this text's walks alone
def laws_szByteS.f (l0 : List Int) (a1 : Int) : Option (Int) := if (wrap64 (a1 - (l0.length : Int))) < 0 then (some (-1)) else (some (wrap64 (a1 - (l0.length : Int))))
set_option maxHeartbeats 8000000 in
set_option maxRecDepth 100000 in
theorem laws_szByteS.calls (A0 : Option Addr) (c0 : Nat) (l0 : List Int) (a1 : Int) (r : Int) (w : World) (hr0 : Kd.C (Kd.int .u8) w A0 l0.length l0) (hc0 : l0.length ≤ c0) (h : laws_szByteS.f l0 a1 = some r) :
  Calls Try.prog 132 #[.slice A0 l0.length c0, .int .i64 a1] w fun e w' => e = .returned (.int .i64 r) ∧ Drawn0 w w' := by
 have HR0 := zA hr0
 have HC0 := zA hc0
 clear hr0 hc0
 have H : (if (wrap64 (a1 - (l0.length : Int))) < 0 then (some (-1)) else (some (wrap64 (a1 - (l0.length : Int))))) = some r := h
 clear h
 by_cases c3 : (wrap64 (a1 - (l0.length : Int))) < 0
 ·rw [if_pos c3] at H
  have c3b0 : decide ((wrap64 (a1 - (l0.length : Int))) < 0) = true := zT c3
  clear c3
  obtain rfl := Option.some.inj H
  go_enter Try.func132, Try.ntmps132
  go_wp2
  go_ret
  exact ⟨by first | rfl | (simp; done) | (simp [*]; done), by repeat (first | exact Drawn0.refl _ | apply Drawn0.step)⟩
 ·rw [if_neg c3] at H
  have c3b0 : decide ((wrap64 (a1 - (l0.length : Int))) < 0) = false := decide_eq_false c3
  clear c3
  obtain rfl := Option.some.inj H
  go_enter Try.func132, Try.ntmps132
  go_wp2
  go_ret
  exact ⟨by first | rfl | (simp; done) | (simp [*]; done), by repeat (first | exact Drawn0.refl _ | apply Drawn0.step)⟩
end Go.Proofs.Ytilimpjcdeeaiaa.G


namespace Go.Proofs.Ytilimpjcdeeaiaa.G
open Go.RowKit Go.Proofs.YtilimpjcdeeaiaaW.PrintWords Go.Proofs.YtilimpjcdeeaiaaW.PrintLast Go.Proofs.YtilimpjcdeeaiaaW.PrintMore
attribute [local go_sem] max2_int min2_int max_two min_two max_three min_three max_four min_four   -- for this text's walks alone
def laws_szPicture.f (k : Nat) (a0_0 : Int) (a0_1 : Int) (a0_2 : Int) (l0_3 : List (List Int)) (a1 : Int) : Option (Int) := (laws_szIntSS.f k l0_3 a1).bind fun t1098 => (if t1098 < 0 then (some (-1)) else (some t1098))
theorem laws_szPicture.mono : ∀ a0 a1 a2 a3 a4 k, LeO (laws_szPicture.f k a0 a1 a2 a3 a4) (laws_szPicture.f (k + 1) a0 a1 a2 a3 a4) := by
 intro a0 a1 a2 a3 a4 k
 unfold laws_szPicture.f
 repeat' first
   | (with_reducible exact laws_szIntSS.mono _ _ _)
   | (with_reducible exact LeO.refl _)
   | (with_reducible exact LeO.none _)
   | (with_reducible refine LeO.ite ?_ ?_)
   | (with_reducible refine LeO.bind ?_ (fun _ => ?_))
   | exact laws_szIntSS.mono _ _ _
   | exact LeO.none _
   | refine LeO.ite ?_ ?_
   | refine LeO.bind ?_ (fun _ => ?_)
set_option maxHeartbeats 8000000 in
set_option maxRecDepth 100000 in
theorem laws_szPicture.calls (k : Nat) (a0_0 : Int) (a0_1 : Int) (a0_2 : Int) (A0_3 : Option Addr) (c0_3 : Nat) (l0_3 : List (List Int)) (a1 : Int) (r : Int) (w : World) (hr0_3 : Kd.C (Kd.slice 3 (Kd.int .i64)) w A0_3 l0_3.length l0_3) (hc0_3 : l0_3.length ≤ c0_3) (h : laws_szPicture.f k a0_0 a0_1 a0_2 l0_3 a1 = some r) :
  Calls Try.prog 89 #[.agg #[.int .i64 a0_0, .int .i64 a0_1, .int .i64 a0_2, .slice A0_3 l0_3.length c0_3], .int .i64 a1] w fun e w' => e = .returned (.int .i64 r) ∧ Below w.heap.size w w' := by
 have hu72 := Try.underlying72
 have HR0_3 := zA hr0_3
 have HC0_3 := zA hc0_3
 clear hr0_3 hc0_3
 have HB := zA (Below.refl w.heap.size w)
 have H : ((laws_szIntSS.f k l0_3 a1).bind fun t1098 => (if t1098 < 0 then (some (-1)) else (some t1098))) = some r := h
 clear h
 replace H := Option.bind_eq_some_iff.mp H
 obtain ⟨t1098, A30, H⟩ := H
 replace H : (if t1098 < 0 then (some (-1)) else (some t1098)) = some r := H
 have A3 := zA A30
 clear A30
 by_cases c4 : t1098 < 0
 ·rw [if_pos c4] at H
  have c4b0 : decide (t1098 < 0) = true := zT c4
  clear c4
  obtain rfl := Option.some.inj H
  go_enter Try.func89, Try.ntmps89
  go_wp2_with (first | ((with_reducible refine gate_dst (N := 2) rfl ?_); refine box_event ?hg (N := 2) ?hd (cs := #[.int .i64 a0_0, .int .i64 a0_1, .int .i64 a0_2, .slice A0_3 l0_3.length c0_3]) (t := 72) ?hr ?_; (case hd => rfl); (case hg => rfl); (case hr => first | (go_simp; done) | (go_simp; rfl)); intro gb1097 hg w5 hbox hb; have n0_ := zA (below_step (by repeat (first | (with_reducible first | exact HB.out | apply zC | apply zB | apply zF) | exact HB.out)) hb); have n1_ := zA (hbox); have n2_ := zA ((by rw [hg]; exact (zL (by repeat (first | (with_reducible first | exact HB.out | apply zC | apply zB | apply zF) | exact HB.out))) : w.heap.size ≤ gb1097)); have n3_ := zA ((by rw [hg]; exact (zL (by repeat (first | (with_reducible first | exact HB.out | apply zC | apply zB | apply zF) | exact HB.out))) : w.heap.size ≤ gb1097)); clear HB; have HB := n0_; have BK1097 := n1_; have GW1097 := n2_; have GE1097 := n3_; clear n0_ n1_ n2_ n3_; clear hb hbox hg; have hcz6_0 : w5.cell? ⟨gb1097, 0, none⟩ = some (.int .i64 a0_0) := (zK BK1097.out 0).trans rfl; have hcz6_1 : w5.cell? ⟨gb1097, 1, none⟩ = some (.int .i64 a0_1) := (zK BK1097.out 1).trans rfl; have hcz6_2 : w5.cell? ⟨gb1097, 2, none⟩ = some (.int .i64 a0_2) := (zK BK1097.out 2).trans rfl; have hcz6_3 : w5.cell? ⟨gb1097, 3, none⟩ = some (.slice A0_3 l0_3.length c0_3) := (zK BK1097.out 3).trans rfl; have hfz6_0 := zJ BK1097.out 0; have hfz6_1 := zJ BK1097.out 1; have hfz6_2 := zJ BK1097.out 2; have hfz6_3 := zJ BK1097.out 3) | ((with_reducible refine gate_callee (f := 125) rfl ?_); refine goesL_ (some 8) rfl rfl Try.func125 (by kernel_rfl) rfl #[.slice A0_3 l0_3.length c0_3, .int .i64 a1] rfl (by (try simp only [zU, zV, zW]); first | done | rfl | (simp only [zR, zQ]; rfl)) ?_; (with_reducible refine (laws_szIntSS.calls k _ _ l0_3 a1 t1098 _ ?side1 ?side2 A3.out).mono ?_); (case side1 => repeat (first | exact (Kd.C_below HR0_3.out HB.out) | (with_reducible refine yH ?_ _) | (with_reducible refine yF ?_ _) | (with_reducible refine yG ?_))); (case side2 => exact HC0_3.out); rintro e w' ⟨rfl, ⟨nd, rfl⟩⟩; refine ⟨_, rfl, ?_⟩))
  go_ret
  exact ⟨by first | rfl | (simp [errW_none, errW_some] <;> rfl) | (simp [*, errW_none, errW_some] <;> rfl), by repeat (first | (with_reducible first | exact HB.out | apply zC | apply zB | apply zF | refine zE ?_ GE1097.out) | exact HB.out)⟩
 ·rw [if_neg c4] at H
  have c4b0 : decide (t1098 < 0) = false := decide_eq_false c4
  clear c4
  obtain rfl := Option.some.inj H
  go_enter Try.func89, Try.ntmps89
  go_wp2_with (first | ((with_reducible refine gate_dst (N := 2) rfl ?_); refine box_event ?hg (N := 2) ?hd (cs := #[.int .i64 a0_0, .int .i64 a0_1, .int .i64 a0_2, .slice A0_3 l0_3.length c0_3]) (t := 72) ?hr ?_; (case hd => rfl); (case hg => rfl); (case hr => first | (go_simp; done) | (go_simp; rfl)); intro gb1097 hg w7 hbox hb; have n0_ := zA (below_step (by repeat (first | (with_reducible first | exact HB.out | apply zC | apply zB | apply zF) | exact HB.out)) hb); have n1_ := zA (hbox); have n2_ := zA ((by rw [hg]; exact (zL (by repeat (first | (with_reducible first | exact HB.out | apply zC | apply zB | apply zF) | exact HB.out))) : w.heap.size ≤ gb1097)); have n3_ := zA ((by rw [hg]; exact (zL (by repeat (first | (with_reducible first | exact HB.out | apply zC | apply zB | apply zF) | exact HB.out))) : w.heap.size ≤ gb1097)); clear HB; have HB := n0_; have BK1097 := n1_; have GW1097 := n2_; have GE1097 := n3_; clear n0_ n1_ n2_ n3_; clear hb hbox hg; have hcz8_0 : w7.cell? ⟨gb1097, 0, none⟩ = some (.int .i64 a0_0) := (zK BK1097.out 0).trans rfl; have hcz8_1 : w7.cell? ⟨gb1097, 1, none⟩ = some (.int .i64 a0_1) := (zK BK1097.out 1).trans rfl; have hcz8_2 : w7.cell? ⟨gb1097, 2, none⟩ = some (.int .i64 a0_2) := (zK BK1097.out 2).trans rfl; have hcz8_3 : w7.cell? ⟨gb1097, 3, none⟩ = some (.slice A0_3 l0_3.length c0_3) := (zK BK1097.out 3).trans rfl; have hfz8_0 := zJ BK1097.out 0; have hfz8_1 := zJ BK1097.out 1; have hfz8_2 := zJ BK1097.out 2; have hfz8_3 := zJ BK1097.out 3) | ((with_reducible refine gate_callee (f := 125) rfl ?_); refine goesL_ (some 8) rfl rfl Try.func125 (by kernel_rfl) rfl #[.slice A0_3 l0_3.length c0_3, .int .i64 a1] rfl (by (try simp only [zU, zV, zW]); first | done | rfl | (simp only [zR, zQ]; rfl)) ?_; (with_reducible refine (laws_szIntSS.calls k _ _ l0_3 a1 t1098 _ ?side1 ?side2 A3.out).mono ?_); (case side1 => repeat (first | exact (Kd.C_below HR0_3.out HB.out) | (with_reducible refine yH ?_ _) | (with_reducible refine yF ?_ _) | (with_reducible refine yG ?_))); (case side2 => exact HC0_3.out); rintro e w' ⟨rfl, ⟨nd, rfl⟩⟩; refine ⟨_, rfl, ?_⟩))
  go_ret
  exact ⟨by first | rfl | (simp [errW_none, errW_some] <;> rfl) | (simp [*, errW_none, errW_some] <;> rfl), by repeat (first | (with_reducible first | exact HB.out | apply zC | apply zB | apply zF | refine zE ?_ GE1097.out) | exact HB.out)⟩
end Go.Proofs.Ytilimpjcdeeaiaa.G


namespace Go.Proofs.Ytilimpjcdeeaiaa.G
open Go.RowKit Go.Proofs.YtilimpjcdeeaiaaW.PrintWords Go.Proofs.YtilimpjcdeeaiaaW.PrintLast Go.Proofs.YtilimpjcdeeaiaaW.PrintMore
attribute [local go_sem] max2_int min2_int max_two min_two max_three min_three max_four min_four   -- for this text's walks alone
def laws_szFeed.f (l0_0 : List Int) (a0_1 : Int) (a0_2 : Bool) (a0_3 : Int) (a0_4 : Int) (a1 : Int) : Option (Int) := (laws_szByteS.f l0_0 a1).bind fun t1100 => (if t1100 < 0 then (some (-1)) else (some t1100))
set_option maxHeartbeats 8000000 in
set_option maxRecDepth 100000 in
theorem laws_szFeed.calls (A0_0 : Option Addr) (c0_0 : Nat) (l0_0 : List Int) (a0_1 : Int) (a0_2 : Bool) (a0_3 : Int) (a0_4 : Int) (a1 : Int) (r : Int) (w : World) (hr0_0 : Kd.C (Kd.int .u8) w A0_0 l0_0.length l0_0) (hc0_0 : l0_0.length ≤ c0_0) (h : laws_szFeed.f l0_0 a0_1 a0_2 a0_3 a0_4 a1 = some r) :
  Calls Try.prog 90 #[.agg #[.slice A0_0 l0_0.length c0_0, .int .i64 a0_1, .bool a0_2, .int .i64 a0_3, .int .i64 a0_4], .int .i64 a1] w fun e w' => e = .returned (.int .i64 r) ∧ Below w.heap.size w w' := by
 have hu76 := Try.underlying76
 have HR0_0 := zA hr0_0
 have HC0_0 := zA hc0_0
 clear hr0_0 hc0_0
 have HB := zA (Below.refl w.heap.size w)
 have H : ((laws_szByteS.f l0_0 a1).bind fun t1100 => (if t1100 < 0 then (some (-1)) else (some t1100))) = some r := h
 clear h
 replace H := Option.bind_eq_some_iff.mp H
 obtain ⟨t1100, A30, H⟩ := H
 replace H : (if t1100 < 0 then (some (-1)) else (some t1100)) = some r := H
 have A3 := zA A30
 clear A30
 by_cases c4 : t1100 < 0
 ·rw [if_pos c4] at H
  have c4b0 : decide (t1100 < 0) = true := zT c4
  clear c4
  obtain rfl := Option.some.inj H
  go_enter Try.func90, Try.ntmps90
  go_wp2_with (first | ((with_reducible refine gate_dst (N := 2) rfl ?_); refine box_event ?hg (N := 2) ?hd (cs := #[.slice A0_0 l0_0.length c0_0, .int .i64 a0_1, .bool a0_2, .int .i64 a0_3, .int .i64 a0_4]) (t := 76) ?hr ?_; (case hd => rfl); (case hg => rfl); (case hr => first | (go_simp; done) | (go_simp; rfl)); intro gb1099 hg w5 hbox hb; have n0_ := zA (below_step (by repeat (first | (with_reducible first | exact HB.out | apply zC | apply zB | apply zF) | exact HB.out)) hb); have n1_ := zA (hbox); have n2_ := zA ((by rw [hg]; exact (zL (by repeat (first | (with_reducible first | exact HB.out | apply zC | apply zB | apply zF) | exact HB.out))) : w.heap.size ≤ gb1099)); have n3_ := zA ((by rw [hg]; exact (zL (by repeat (first | (with_reducible first | exact HB.out | apply zC | apply zB | apply zF) | exact HB.out))) : w.heap.size ≤ gb1099)); clear HB; have HB := n0_; have BK1099 := n1_; have GW1099 := n2_; have GE1099 := n3_; clear n0_ n1_ n2_ n3_; clear hb hbox hg; have hcz6_0 : w5.cell? ⟨gb1099, 0, none⟩ = some (.slice A0_0 l0_0.length c0_0) := (zK BK1099.out 0).trans rfl; have hcz6_1 : w5.cell? ⟨gb1099, 1, none⟩ = some (.int .i64 a0_1) := (zK BK1099.out 1).trans rfl; have hcz6_2 : w5.cell? ⟨gb1099, 2, none⟩ = some (.bool a0_2) := (zK BK1099.out 2).trans rfl; have hcz6_3 : w5.cell? ⟨gb1099, 3, none⟩ = some (.int .i64 a0_3) := (zK BK1099.out 3).trans rfl; have hcz6_4 : w5.cell? ⟨gb1099, 4, none⟩ = some (.int .i64 a0_4) := (zK BK1099.out 4).trans rfl; have hfz6_0 := zJ BK1099.out 0; have hfz6_1 := zJ BK1099.out 1; have hfz6_2 := zJ BK1099.out 2; have hfz6_3 := zJ BK1099.out 3; have hfz6_4 := zJ BK1099.out 4) | ((with_reducible refine gate_callee (f := 132) rfl ?_); refine goesL_ (some 8) rfl rfl Try.func132 (by kernel_rfl) rfl #[.slice A0_0 l0_0.length c0_0, .int .i64 a1] rfl (by (try simp only [zU, zV, zW]); first | done | rfl | (simp only [zR, zQ]; rfl)) ?_; (with_reducible refine (laws_szByteS.calls _ _ l0_0 a1 t1100 _ ?side1 ?side2 A3.out).mono ?_); (case side1 => repeat (first | exact (Kd.C_below HR0_0.out HB.out) | (with_reducible refine yH ?_ _) | (with_reducible refine yF ?_ _) | (with_reducible refine yG ?_))); (case side2 => exact HC0_0.out); rintro e w' ⟨rfl, ⟨nd, rfl⟩⟩; refine ⟨_, rfl, ?_⟩))
  go_ret
  exact ⟨by first | rfl | (simp [errW_none, errW_some] <;> rfl) | (simp [*, errW_none, errW_some] <;> rfl), by repeat (first | (with_reducible first | exact HB.out | apply zC | apply zB | apply zF | refine zE ?_ GE1099.out) | exact HB.out)⟩
 ·rw [if_neg c4] at H
  have c4b0 : decide (t1100 < 0) = false := decide_eq_false c4
  clear c4
  obtain rfl := Option.some.inj H
  go_enter Try.func90, Try.ntmps90
  go_wp2_with (first | ((with_reducible refine gate_dst (N := 2) rfl ?_); refine box_event ?hg (N := 2) ?hd (cs := #[.slice A0_0 l0_0.length c0_0, .int .i64 a0_1, .bool a0_2, .int .i64 a0_3, .int .i64 a0_4]) (t := 76) ?hr ?_; (case hd => rfl); (case hg => rfl); (case hr => first | (go_simp; done) | (go_simp; rfl)); intro gb1099 hg w7 hbox hb; have n0_ := zA (below_step (by repeat (first | (with_reducible first | exact HB.out | apply zC | apply zB | apply zF) | exact HB.out)) hb); have n1_ := zA (hbox); have n2_ := zA ((by rw [hg]; exact (zL (by repeat (first | (with_reducible first | exact HB.out | apply zC | apply zB | apply zF) | exact HB.out))) : w.heap.size ≤ gb1099)); have n3_ := zA ((by rw [hg]; exact (zL (by repeat (first | (with_reducible first | exact HB.out | apply zC | apply zB | apply zF) | exact HB.out))) : w.heap.size ≤ gb1099)); clear HB; have HB := n0_; have BK1099 := n1_; have GW1099 := n2_; have GE1099 := n3_; clear n0_ n1_ n2_ n3_; clear hb hbox hg; have hcz8_0 : w7.cell? ⟨gb1099, 0, none⟩ = some (.slice A0_0 l0_0.length c0_0) := (zK BK1099.out 0).trans rfl; have hcz8_1 : w7.cell? ⟨gb1099, 1, none⟩ = some (.int .i64 a0_1) := (zK BK1099.out 1).trans rfl; have hcz8_2 : w7.cell? ⟨gb1099, 2, none⟩ = some (.bool a0_2) := (zK BK1099.out 2).trans rfl; have hcz8_3 : w7.cell? ⟨gb1099, 3, none⟩ = some (.int .i64 a0_3) := (zK BK1099.out 3).trans rfl; have hcz8_4 : w7.cell? ⟨gb1099, 4, none⟩ = some (.int .i64 a0_4) := (zK BK1099.out 4).trans rfl; have hfz8_0 := zJ BK1099.out 0; have hfz8_1 := zJ BK1099.out 1; have hfz8_2 := zJ BK1099.out 2; have hfz8_3 := zJ BK1099.out 3; have hfz8_4 := zJ BK1099.out 4) | ((with_reducible refine gate_callee (f := 132) rfl ?_); refine goesL_ (some 8) rfl rfl Try.func132 (by kernel_rfl) rfl #[.slice A0_0 l0_0.length c0_0, .int .i64 a1] rfl (by (try simp only [zU, zV, zW]); first | done | rfl | (simp only [zR, zQ]; rfl)) ?_; (with_reducible refine (laws_szByteS.calls _ _ l0_0 a1 t1100 _ ?side1 ?side2 A3.out).mono ?_); (case side1 => repeat (first | exact (Kd.C_below HR0_0.out HB.out) | (with_reducible refine yH ?_ _) | (with_reducible refine yF ?_ _) | (with_reducible refine yG ?_))); (case side2 => exact HC0_0.out); rintro e w' ⟨rfl, ⟨nd, rfl⟩⟩; refine ⟨_, rfl, ?_⟩))
  go_ret
  exact ⟨by first | rfl | (simp [errW_none, errW_some] <;> rfl) | (simp [*, errW_none, errW_some] <;> rfl), by repeat (first | (with_reducible first | exact HB.out | apply zC | apply zB | apply zF | refine zE ?_ GE1099.out) | exact HB.out)⟩
end Go.Proofs.Ytilimpjcdeeaiaa.G


namespace Go.Proofs.Ytilimpjcdeeaiaa.G
open Go.RowKit Go.Proofs.YtilimpjcdeeaiaaW.PrintWords Go.Proofs.YtilimpjcdeeaiaaW.PrintLast Go.Proofs.YtilimpjcdeeaiaaW.PrintMore
attribute [local go_sem] max2_int min2_int max_two min_two max_three min_three max_four min_four   -- for this text's walks alone
def laws_szDesk.f (k : Nat) (a0_0 : Int) (a0_1 : Int) (a0_2 : Int) (a0_3 : Int) (l0_4 : List (List Int)) (a0_5 : Int) (l0_6 : List Int) (a0_7 : Int) (a0_8 : Bool) (a0_9 : Int) (a0_10 : Int) (a1 : Int) : Option (Int) := (laws_szPicture.f k a0_1 a0_2 a0_3 l0_4 a1).bind fun t1102 => (if t1102 < 0 then (some (-1)) else ((laws_szFeed.f l0_6 a0_7 a0_8 a0_9 a0_10 t1102).bind fun t1103 => (if t1103 < 0 then (some (-1)) else (some t1103))))
theorem laws_szDesk.mono : ∀ a0 a1 a2 a3 a4 a5 a6 a7 a8 a9 a10 a11 k, LeO (laws_szDesk.f k a0 a1 a2 a3 a4 a5 a6 a7 a8 a9 a10 a11) (laws_szDesk.f (k + 1) a0 a1 a2 a3 a4 a5 a6 a7 a8 a9 a10 a11) := by
 intro a0 a1 a2 a3 a4 a5 a6 a7 a8 a9 a10 a11 k
 unfold laws_szDesk.f
 repeat' first
   | (with_reducible exact laws_szPicture.mono _ _ _ _ _ _)
   | (with_reducible exact LeO.refl _)
   | (with_reducible exact LeO.none _)
   | (with_reducible refine LeO.ite ?_ ?_)
   | (with_reducible refine LeO.bind ?_ (fun _ => ?_))
   | exact laws_szPicture.mono _ _ _ _ _ _
   | exact LeO.none _
   | refine LeO.ite ?_ ?_
   | refine LeO.bind ?_ (fun _ => ?_)
set_option maxHeartbeats 8000000 in
set_option maxRecDepth 100000 in
theorem laws_szDesk.calls (k : Nat) (a0_0 : Int) (a0_1 : Int) (a0_2 : Int) (a0_3 : Int) (A0_4 : Option Addr) (c0_4 : Nat) (l0_4 : List (List Int)) (a0_5 : Int) (A0_6 : Option Addr) (c0_6 : Nat) (l0_6 : List Int) (a0_7 : Int) (a0_8 : Bool) (a0_9 : Int) (a0_10 : Int) (a1 : Int) (r : Int) (w : World) (hr0_4 : Kd.C (Kd.slice 3 (Kd.int .i64)) w A0_4 l0_4.length l0_4) (hc0_4 : l0_4.length ≤ c0_4) (hr0_6 : Kd.C (Kd.int .u8) w A0_6 l0_6.length l0_6) (hc0_6 : l0_6.length ≤ c0_6) (h : laws_szDesk.f k a0_0 a0_1 a0_2 a0_3 l0_4 a0_5 l0_6 a0_7 a0_8 a0_9 a0_10 a1 = some r) :
  Calls Try.prog 41 #[.agg #[.int .i64 a0_0, .int .i64 a0_1, .int .i64 a0_2, .int .i64 a0_3, .slice A0_4 l0_4.length c0_4, .int .i64 a0_5, .slice A0_6 l0_6.length c0_6, .int .i64 a0_7, .bool a0_8, .int .i64 a0_9, .int .i64 a0_10], .int .i64 a1] w fun e w' => e = .returned (.int .i64 r) ∧ Below w.heap.size w w' := by
 have hu78 := Try.underlying78
 have hu72 := Try.underlying72
 have hu76 := Try.underlying76
 have HR0_4 := zA hr0_4
 have HC0_4 := zA hc0_4
 clear hr0_4 hc0_4
 have HR0_6 := zA hr0_6
 have HC0_6 := zA hc0_6
 clear hr0_6 hc0_6
 have HB := zA (Below.refl w.heap.size w)
 have H : ((laws_szPicture.f k a0_1 a0_2 a0_3 l0_4 a1).bind fun t1102 => (if t1102 < 0 then (some (-1)) else ((laws_szFeed.f l0_6 a0_7 a0_8 a0_9 a0_10 t1102).bind fun t1103 => (if t1103 < 0 then (some (-1)) else (some t1103))))) = some r := h
 clear h
 replace H := Option.bind_eq_some_iff.mp H
 obtain ⟨t1102, A30, H⟩ := H
 replace H : (if t1102 < 0 then (some (-1)) else ((laws_szFeed.f l0_6 a0_7 a0_8 a0_9 a0_10 t1102).bind fun t1103 => (if t1103 < 0 then (some (-1)) else (some t1103)))) = some r := H
 have A3 := zA A30
 clear A30
 by_cases c4 : t1102 < 0
 ·rw [if_pos c4] at H
  have c4b0 : decide (t1102 < 0) = true := zT c4
  clear c4
  obtain rfl := Option.some.inj H
  go_enter Try.func41, Try.ntmps41
  go_wp2_with (first | ((with_reducible refine gate_dst (N := 2) rfl ?_); refine box_event ?hg (N := 2) ?hd (cs := #[.int .i64 a0_0, .int .i64 a0_1, .int .i64 a0_2, .int .i64 a0_3, .slice A0_4 l0_4.length c0_4, .int .i64 a0_5, .slice A0_6 l0_6.length c0_6, .int .i64 a0_7, .bool a0_8, .int .i64 a0_9, .int .i64 a0_10]) (t := 78) ?hr ?_; (case hd => rfl); (case hg => rfl); (case hr => first | (go_simp; done) | (go_simp; rfl)); intro gb1101 hg w5 hbox hb; have n0_ := zA (below_step (by repeat (first | (with_reducible first | exact HB.out | apply zC | apply zB | apply zF) | exact HB.out)) hb); have n1_ := zA (hbox); have n2_ := zA ((by rw [hg]; exact (zL (by repeat (first | (with_reducible first | exact HB.out | apply zC | apply zB | apply zF) | exact HB.out))) : w.heap.size ≤ gb1101)); have n3_ := zA ((by rw [hg]; exact (zL (by repeat (first | (with_reducible first | exact HB.out | apply zC | apply zB | apply zF) | exact HB.out))) : w.heap.size ≤ gb1101)); clear HB; have HB := n0_; have BK1101 := n1_; have GW1101 := n2_; have GE1101 := n3_; clear n0_ n1_ n2_ n3_; clear hb hbox hg; have hcz6_0 : w5.cell? ⟨gb1101, 0, none⟩ = some (.int .i64 a0_0) := (zK BK1101.out 0).trans rfl; have hcz6_1 : w5.cell? ⟨gb1101, 1, none⟩ = some (.int .i64 a0_1) := (zK BK1101.out 1).trans rfl; have hcz6_2 : w5.cell? ⟨gb1101, 2, none⟩ = some (.int .i64 a0_2) := (zK BK1101.out 2).trans rfl; have hcz6_3 : w5.cell? ⟨gb1101, 3, none⟩ = some (.int .i64 a0_3) := (zK BK1101.out 3).trans rfl; have hcz6_4 : w5.cell? ⟨gb1101, 4, none⟩ = some (.slice A0_4 l0_4.length c0_4) := (zK BK1101.out 4).trans rfl; have hcz6_5 : w5.cell? ⟨gb1101, 5, none⟩ = some (.int .i64 a0_5) := (zK BK1101.out 5).trans rfl; have hcz6_6 : w5.cell? ⟨gb1101, 6, none⟩ = some (.slice A0_6 l0_6.length c0_6) := (zK BK1101.out 6).trans rfl; have hcz6_7 : w5.cell? ⟨gb1101, 7, none⟩ = some (.int .i64 a0_7) := (zK BK1101.out 7).trans rfl; have hcz6_8 : w5.cell? ⟨gb1101, 8, none⟩ = some (.bool a0_8) := (zK BK1101.out 8).trans rfl; have hcz6_9 : w5.cell? ⟨gb1101, 9, none⟩ = some (.int .i64 a0_9) := (zK BK1101.out 9).trans rfl; have hcz6_10 : w5.cell? ⟨gb1101, 10, none⟩ = some (.int .i64 a0_10) := (zK BK1101.out 10).trans rfl; have hfz6_0 := zJ BK1101.out 0; have hfz6_1 := zJ BK1101.out 1; have hfz6_2 := zJ BK1101.out 2; have hfz6_3 := zJ BK1101.out 3; have hfz6_4 := zJ BK1101.out 4; have hfz6_5 := zJ BK1101.out 5; have hfz6_6 := zJ BK1101.out 6; have hfz6_7 := zJ BK1101.out 7; have hfz6_8 := zJ BK1101.out 8; have hfz6_9 := zJ BK1101.out 9; have hfz6_10 := zJ BK1101.out 10) | ((with_reducible refine gate_callee (f := 89) rfl ?_); refine goesL_ (some 8) rfl rfl Try.func89 (by kernel_rfl) rfl #[.agg #[.int .i64 a0_1, .int .i64 a0_2, .int .i64 a0_3, .slice A0_4 l0_4.length c0_4], .int .i64 a1] rfl (by (try simp only [zU, zV, zW]); first | done | rfl | (simp only [zR, zQ]; rfl)) ?_; (with_reducible refine (laws_szPicture.calls k a0_1 a0_2 a0_3 _ _ l0_4 a1 t1102 _ ?side1 ?side2 A3.out).mono ?_); (case side1 => repeat (first | exact (Kd.C_below HR0_4.out HB.out) | (with_reducible refine yH ?_ _) | (with_reducible refine yF ?_ _) | (with_reducible refine yG ?_))); (case side2 => exact HC0_4.out); rintro e w7 ⟨rfl, hb⟩; refine ⟨_, rfl, ?_⟩; have n0_ := zA (blk_below (g := gb1101) (o := .cells #[.int .i64 a0_0, .int .i64 a0_1, .int .i64 a0_2, .int .i64 a0_3, .slice A0_4 l0_4.length c0_4, .int .i64 a0_5, .slice A0_6 l0_6.length c0_6, .int .i64 a0_7, .bool a0_8, .int .i64 a0_9, .int .i64 a0_10] 78 (0, 0)) (by (with_reducible repeat (first | refine zG ?_ _ | refine zH ?_ | refine zD ?_ _)); exact BK1101.out) hb); have n1_ := zA (below_step (by repeat (first | (with_reducible first | exact HB.out | apply zC | apply zB | apply zF | refine zE ?_ GE1101.out) | exact HB.out)) hb); clear BK1101; clear HB; have BK1101 := n0_; have HB := n1_; clear n0_ n1_; (try clear hb); (try clear hb2); (try clear hk); (try clear hi)))
  go_ret
  exact ⟨by first | rfl | (simp [errW_none, errW_some] <;> rfl) | (simp [*, errW_none, errW_some] <;> rfl), by repeat (first | (with_reducible first | exact HB.out | apply zC | apply zB | apply zF | refine zE ?_ GE1101.out) | exact HB.out)⟩
 ·rw [if_neg c4] at H
  have c4b0 : decide (t1102 < 0) = false := decide_eq_false c4
  clear c4
  replace H := Option.bind_eq_some_iff.mp H
  obtain ⟨t1103, A80, H⟩ := H
  replace H : (if t1103 < 0 then (some (-1)) else (some t1103)) = some r := H
  have A8 := zA A80
  clear A80
  by_cases c9 : t1103 < 0
  ·rw [if_pos c9] at H
   have c9b0 : decide (t1103 < 0) = true := zT c9
   clear c9
   obtain rfl := Option.some.inj H
   go_enter Try.func41, Try.ntmps41
   go_wp2_with (first | ((with_reducible refine gate_dst (N := 2) rfl ?_); refine box_event ?hg (N := 2) ?hd (cs := #[.int .i64 a0_0, .int .i64 a0_1, .int .i64 a0_2, .int .i64 a0_3, .slice A0_4 l0_4.length c0_4, .int .i64 a0_5, .slice A0_6 l0_6.length c0_6, .int .i64 a0_7, .bool a0_8, .int .i64 a0_9, .int .i64 a0_10]) (t := 78) ?hr ?_; (case hd => rfl); (case hg => rfl); (case hr => first | (go_simp; done) | (go_simp; rfl)); intro gb1101 hg w10 hbox hb; have n0_ := zA (below_step (by repeat (first | (with_reducible first | exact HB.out | apply zC | apply zB | apply zF) | exact HB.out)) hb); have n1_ := zA (hbox); have n2_ := zA ((by rw [hg]; exact (zL (by repeat (first | (with_reducible first | exact HB.out | apply zC | apply zB | apply zF) | exact HB.out))) : w.heap.size ≤ gb1101)); have n3_ := zA ((by rw [hg]; exact (zL (by repeat (first | (with_reducible first | exact HB.out | apply zC | apply zB | apply zF) | exact HB.out))) : w.heap.size ≤ gb1101)); clear HB; have HB := n0_; have BK1101 := n1_; have GW1101 := n2_; have GE1101 := n3_; clear n0_ n1_ n2_ n3_; clear hb hbox hg; have hcz11_0 : w10.cell? ⟨gb1101, 0, none⟩ = some (.int .i64 a0_0) := (zK BK1101.out 0).trans rfl; have hcz11_1 : w10.cell? ⟨gb1101, 1, none⟩ = some (.int .i64 a0_1) := (zK BK1101.out 1).trans rfl; have hcz11_2 : w10.cell? ⟨gb1101, 2, none⟩ = some (.int .i64 a0_2) := (zK BK1101.out 2).trans rfl; have hcz11_3 : w10.cell? ⟨gb1101, 3, none⟩ = some (.int .i64 a0_3) := (zK BK1101.out 3).trans rfl; have hcz11_4 : w10.cell? ⟨gb1101, 4, none⟩ = some (.slice A0_4 l0_4.length c0_4) := (zK BK1101.out 4).trans rfl; have hcz11_5 : w10.cell? ⟨gb1101, 5, none⟩ = some (.int .i64 a0_5) := (zK BK1101.out 5).trans rfl; have hcz11_6 : w10.cell? ⟨gb1101, 6, none⟩ = some (.slice A0_6 l0_6.length c0_6) := (zK BK1101.out 6).trans rfl; have hcz11_7 : w10.cell? ⟨gb1101, 7, none⟩ = some (.int .i64 a0_7) := (zK BK1101.out 7).trans rfl; have hcz11_8 : w10.cell? ⟨gb1101, 8, none⟩ = some (.bool a0_8) := (zK BK1101.out 8).trans rfl; have hcz11_9 : w10.cell? ⟨gb1101, 9, none⟩ = some (.int .i64 a0_9) := (zK BK1101.out 9).trans rfl; have hcz11_10 : w10.cell? ⟨gb1101, 10, none⟩ = some (.int .i64 a0_10) := (zK BK1101.out 10).trans rfl; have hfz11_0 := zJ BK1101.out 0; have hfz11_1 := zJ BK1101.out 1; have hfz11_2 := zJ BK1101.out 2; have hfz11_3 := zJ BK1101.out 3; have hfz11_4 := zJ BK1101.out 4; have hfz11_5 := zJ BK1101.out 5; have hfz11_6 := zJ BK1101.out 6; have hfz11_7 := zJ BK1101.out 7; have hfz11_8 := zJ BK1101.out 8; have hfz11_9 := zJ BK1101.out 9; have hfz11_10 := zJ BK1101.out 10) | ((with_reducible refine gate_callee (f := 89) rfl ?_); refine goesL_ (some 8) rfl rfl Try.func89 (by kernel_rfl) rfl #[.agg #[.int .i64 a0_1, .int .i64 a0_2, .int .i64 a0_3, .slice A0_4 l0_4.length c0_4], .int .i64 a1] rfl (by (try simp only [zU, zV, zW]); first | done | rfl | (simp only [zR, zQ]; rfl)) ?_; (with_reducible refine (laws_szPicture.calls k a0_1 a0_2 a0_3 _ _ l0_4 a1 t1102 _ ?side1 ?side2 A3.out).mono ?_); (case side1 => repeat (first | exact (Kd.C_below HR0_4.out HB.out) | (with_reducible refine yH ?_ _) | (with_reducible refine yF ?_ _) | (with_reducible refine yG ?_))); (case side2 => exact HC0_4.out); rintro e w12 ⟨rfl, hb⟩; refine ⟨_, rfl, ?_⟩; have n0_ := zA (blk_below (g := gb1101) (o := .cells #[.int .i64 a0_0, .int .i64 a0_1, .int .i64 a0_2, .int .i64 a0_3, .slice A0_4 l0_4.length c0_4, .int .i64 a0_5, .slice A0_6 l0_6.length c0_6, .int .i64 a0_7, .bool a0_8, .int .i64 a0_9, .int .i64 a0_10] 78 (0, 0)) (by (with_reducible repeat (first | refine zG ?_ _ | refine zH ?_ | refine zD ?_ _)); exact BK1101.out) hb); have n1_ := zA (below_step (by repeat (first | (with_reducible first | exact HB.out | apply zC | apply zB | apply zF | refine zE ?_ GE1101.out) | exact HB.out)) hb); clear BK1101; clear HB; have BK1101 := n0_; have HB := n1_; clear n0_ n1_; (try clear hb); (try clear hb2); (try clear hk); (try clear hi); have hcz13_0 : w12.cell? ⟨gb1101, 0, none⟩ = some (.int .i64 a0_0) := (zK BK1101.out 0).trans rfl; have hcz13_1 : w12.cell? ⟨gb1101, 1, none⟩ = some (.int .i64 a0_1) := (zK BK1101.out 1).trans rfl; have hcz13_2 : w12.cell? ⟨gb1101, 2, none⟩ = some (.int .i64 a0_2) := (zK BK1101.out 2).trans rfl; have hcz13_3 : w12.cell? ⟨gb1101, 3, none⟩ = some (.int .i64 a0_3) := (zK BK1101.out 3).trans rfl; have hcz13_4 : w12.cell? ⟨gb1101, 4, none⟩ = some (.slice A0_4 l0_4.length c0_4) := (zK BK1101.out 4).trans rfl; have hcz13_5 : w12.cell? ⟨gb1101, 5, none⟩ = some (.int .i64 a0_5) := (zK BK1101.out 5).trans rfl; have hcz13_6 : w12.cell? ⟨gb1101, 6, none⟩ = some (.slice A0_6 l0_6.length c0_6) := (zK BK1101.out 6).trans rfl; have hcz13_7 : w12.cell? ⟨gb1101, 7, none⟩ = some (.int .i64 a0_7) := (zK BK1101.out 7).trans rfl; have hcz13_8 : w12.cell? ⟨gb1101, 8, none⟩ = some (.bool a0_8) := (zK BK1101.out 8).trans rfl; have hcz13_9 : w12.cell? ⟨gb1101, 9, none⟩ = some (.int .i64 a0_9) := (zK BK1101.out 9).trans rfl; have hcz13_10 : w12.cell? ⟨gb1101, 10, none⟩ = some (.int .i64 a0_10) := (zK BK1101.out 10).trans rfl; have hfz13_0 := zJ BK1101.out 0; have hfz13_1 := zJ BK1101.out 1; have hfz13_2 := zJ BK1101.out 2; have hfz13_3 := zJ BK1101.out 3; have hfz13_4 := zJ BK1101.out 4; have hfz13_5 := zJ BK1101.out 5; have hfz13_6 := zJ BK1101.out 6; have hfz13_7 := zJ BK1101.out 7; have hfz13_8 := zJ BK1101.out 8; have hfz13_9 := zJ BK1101.out 9; have hfz13_10 := zJ BK1101.out 10) | ((with_reducible refine gate_callee (f := 90) rfl ?_); refine goesL_ (some 14) rfl rfl Try.func90 (by kernel_rfl) rfl #[.agg #[.slice A0_6 l0_6.length c0_6, .int .i64 a0_7, .bool a0_8, .int .i64 a0_9, .int .i64 a0_10], .int .i64 t1102] rfl (by (try simp only [zU, zV, zW]); first | done | rfl | (simp only [zR, zQ]; rfl)) ?_; (with_reducible refine (laws_szFeed.calls _ _ l0_6 a0_7 a0_8 a0_9 a0_10 t1102 t1103 _ ?side1 ?side2 A8.out).mono ?_); (case side1 => repeat (first | exact (Kd.C_below HR0_6.out HB.out) | (with_reducible refine yH ?_ _) | (with_reducible refine yF ?_ _) | (with_reducible refine yG ?_))); (case side2 => exact HC0_6.out); rintro e w14 ⟨rfl, hb⟩; refine ⟨_, rfl, ?_⟩; have n0_ := zA (blk_below (g := gb1101) (o := .cells #[.int .i64 a0_0, .int .i64 a0_1, .int .i64 a0_2, .int .i64 a0_3, .slice A0_4 l0_4.length c0_4, .int .i64 a0_5, .slice A0_6 l0_6.length c0_6, .int .i64 a0_7, .bool a0_8, .int .i64 a0_9, .int .i64 a0_10] 78 (0, 0)) (by (with_reducible repeat (first | refine zG ?_ _ | refine zH ?_ | refine zD ?_ _)); exact BK1101.out) hb); have n1_ := zA (below_step (by repeat (first | (with_reducible first | exact HB.out | apply zC | apply zB | apply zF | refine zE ?_ GE1101.out) | exact HB.out)) hb); clear BK1101; clear HB; have BK1101 := n0_; have HB := n1_; clear n0_ n1_; (try clear hb); (try clear hb2); (try clear hk); (try clear hi)))
   go_ret
   exact ⟨by first | rfl | (simp [errW_none, errW_some] <;> rfl) | (simp [*, errW_none, errW_some] <;> rfl), by repeat (first | (with_reducible first | exact HB.out | apply zC | apply zB | apply zF | refine zE ?_ GE1101.out) | exact HB.out)⟩
  ·rw [if_neg c9] at H
   have c9b0 : decide (t1103 < 0) = false := decide_eq_false c9
   clear c9
   obtain rfl := Option.some.inj H
   go_enter Try.func41, Try.ntmps41
   go_wp2_with (first | ((with_reducible refine gate_dst (N := 2) rfl ?_); refine box_event ?hg (N := 2) ?hd (cs := #[.int .i64 a0_0, .int .i64 a0_1, .int .i64 a0_2, .int .i64 a0_3, .slice A0_4 l0_4.length c0_4, .int .i64 a0_5, .slice A0_6 l0_6.length c0_6, .int .i64 a0_7, .bool a0_8, .int .i64 a0_9, .int .i64 a0_10]) (t := 78) ?hr ?_; (case hd => rfl); (case hg => rfl); (case hr => first | (go_simp; done) | (go_simp; rfl)); intro gb1101 hg w15 hbox hb; have n0_ := zA (below_step (by repeat (first | (with_reducible first | exact HB.out | apply zC | apply zB | apply zF) | exact HB.out)) hb); have n1_ := zA (hbox); have n2_ := zA ((by rw [hg]; exact (zL (by repeat (first | (with_reducible first | exact HB.out | apply zC | apply zB | apply zF) | exact HB.out))) : w.heap.size ≤ gb1101)); have n3_ := zA ((by rw [hg]; exact (zL (by repeat (first | (with_reducible first | exact HB.out | apply zC | apply zB | apply zF) | exact HB.out))) : w.heap.size ≤ gb1101)); clear HB; have HB := n0_; have BK1101 := n1_; have GW1101 := n2_; have GE1101 := n3_; clear n0_ n1_ n2_ n3_; clear hb hbox hg; have hcz16_0 : w15.cell? ⟨gb1101, 0, none⟩ = some (.int .i64 a0_0) := (zK BK1101.out 0).trans rfl; have hcz16_1 : w15.cell? ⟨gb1101, 1, none⟩ = some (.int .i64 a0_1) := (zK BK1101.out 1).trans rfl; have hcz16_2 : w15.cell? ⟨gb1101, 2, none⟩ = some (.int .i64 a0_2) := (zK BK1101.out 2).trans rfl; have hcz16_3 : w15.cell? ⟨gb1101, 3, none⟩ = some (.int .i64 a0_3) := (zK BK1101.out 3).trans rfl; have hcz16_4 : w15.cell? ⟨gb1101, 4, none⟩ = some (.slice A0_4 l0_4.length c0_4) := (zK BK1101.out 4).trans rfl; have hcz16_5 : w15.cell? ⟨gb1101, 5, none⟩ = some (.int .i64 a0_5) := (zK BK1101.out 5).trans rfl; have hcz16_6 : w15.cell? ⟨gb1101, 6, none⟩ = some (.slice A0_6 l0_6.length c0_6) := (zK BK1101.out 6).trans rfl; have hcz16_7 : w15.cell? ⟨gb1101, 7, none⟩ = some (.int .i64 a0_7) := (zK BK1101.out 7).trans rfl; have hcz16_8 : w15.cell? ⟨gb1101, 8, none⟩ = some (.bool a0_8) := (zK BK1101.out 8).trans rfl; have hcz16_9 : w15.cell? ⟨gb1101, 9, none⟩ = some (.int .i64 a0_9) := (zK BK1101.out 9).trans rfl; have hcz16_10 : w15.cell? ⟨gb1101, 10, none⟩ = some (.int .i64 a0_10) := (zK BK1101.out 10).trans rfl; have hfz16_0 := zJ BK1101.out 0; have hfz16_1 := zJ BK1101.out 1; have hfz16_2 := zJ BK1101.out 2; have hfz16_3 := zJ BK1101.out 3; have hfz16_4 := zJ BK1101.out 4; have hfz16_5 := zJ BK1101.out 5; have hfz16_6 := zJ BK1101.out 6; have hfz16_7 := zJ BK1101.out 7; have hfz16_8 := zJ BK1101.out 8; have hfz16_9 := zJ BK1101.out 9; have hfz16_10 := zJ BK1101.out 10) | ((with_reducible refine gate_callee (f := 89) rfl ?_); refine goesL_ (some 8) rfl rfl Try.func89 (by kernel_rfl) rfl #[.agg #[.int .i64 a0_1, .int .i64 a0_2, .int .i64 a0_3, .slice A0_4 l0_4.length c0_4], .int .i64 a1] rfl (by (try simp only [zU, zV, zW]); first | done | rfl | (simp only [zR, zQ]; rfl)) ?_; (with_reducible refine (laws_szPicture.calls k a0_1 a0_2 a0_3 _ _ l0_4 a1 t1102 _ ?side1 ?side2 A3.out).mono ?_); (case side1 => repeat (first | exact (Kd.C_below HR0_4.out HB.out) | (with_reducible refine yH ?_ _) | (with_reducible refine yF ?_ _) | (with_reducible refine yG ?_))); (case side2 => exact HC0_4.out); rintro e w17 ⟨rfl, hb⟩; refine ⟨_, rfl, ?_⟩; have n0_ := zA (blk_below (g := gb1101) (o := .cells #[.int .i64 a0_0, .int .i64 a0_1, .int .i64 a0_2, .int .i64 a0_3, .slice A0_4 l0_4.length c0_4, .int .i64 a0_5, .slice A0_6 l0_6.length c0_6, .int .i64 a0_7, .bool a0_8, .int .i64 a0_9, .int .i64 a0_10] 78 (0, 0)) (by (with_reducible repeat (first | refine zG ?_ _ | refine zH ?_ | refine zD ?_ _)); exact BK1101.out) hb); have n1_ := zA (below_step (by repeat (first | (with_reducible first | exact HB.out | apply zC | apply zB | apply zF | refine zE ?_ GE1101.out) | exact HB.out)) hb); clear BK1101; clear HB; have BK1101 := n0_; have HB := n1_; clear n0_ n1_; (try clear hb); (try clear hb2); (try clear hk); (try clear hi); have hcz18_0 : w17.cell? ⟨gb1101, 0, none⟩ = some (.int .i64 a0_0) := (zK BK1101.out 0).trans rfl; have hcz18_1 : w17.cell? ⟨gb1101, 1, none⟩ = some (.int .i64 a0_1) := (zK BK1101.out 1).trans rfl; have hcz18_2 : w17.cell? ⟨gb1101, 2, none⟩ = some (.int .i64 a0_2) := (zK BK1101.out 2).trans rfl; have hcz18_3 : w17.cell? ⟨gb1101, 3, none⟩ = some (.int .i64 a0_3) := (zK BK1101.out 3).trans rfl; have hcz18_4 : w17.cell? ⟨gb1101, 4, none⟩ = some (.slice A0_4 l0_4.length c0_4) := (zK BK1101.out 4).trans rfl; have hcz18_5 : w17.cell? ⟨gb1101, 5, none⟩ = some (.int .i64 a0_5) := (zK BK1101.out 5).trans rfl; have hcz18_6 : w17.cell? ⟨gb1101, 6, none⟩ = some (.slice A0_6 l0_6.length c0_6) := (zK BK1101.out 6).trans rfl; have hcz18_7 : w17.cell? ⟨gb1101, 7, none⟩ = some (.int .i64 a0_7) := (zK BK1101.out 7).trans rfl; have hcz18_8 : w17.cell? ⟨gb1101, 8, none⟩ = some (.bool a0_8) := (zK BK1101.out 8).trans rfl; have hcz18_9 : w17.cell? ⟨gb1101, 9, none⟩ = some (.int .i64 a0_9) := (zK BK1101.out 9).trans rfl; have hcz18_10 : w17.cell? ⟨gb1101, 10, none⟩ = some (.int .i64 a0_10) := (zK BK1101.out 10).trans rfl; have hfz18_0 := zJ BK1101.out 0; have hfz18_1 := zJ BK1101.out 1; have hfz18_2 := zJ BK1101.out 2; have hfz18_3 := zJ BK1101.out 3; have hfz18_4 := zJ BK1101.out 4; have hfz18_5 := zJ BK1101.out 5; have hfz18_6 := zJ BK1101.out 6; have hfz18_7 := zJ BK1101.out 7; have hfz18_8 := zJ BK1101.out 8; have hfz18_9 := zJ BK1101.out 9; have hfz18_10 := zJ BK1101.out 10) | ((with_reducible refine gate_callee (f := 90) rfl ?_); refine goesL_ (some 14) rfl rfl Try.func90 (by kernel_rfl) rfl #[.agg #[.slice A0_6 l0_6.length c0_6, .int .i64 a0_7, .bool a0_8, .int .i64 a0_9, .int .i64 a0_10], .int .i64 t1102] rfl (by (try simp only [zU, zV, zW]); first | done | rfl | (simp only [zR, zQ]; rfl)) ?_; (with_reducible refine (laws_szFeed.calls _ _ l0_6 a0_7 a0_8 a0_9 a0_10 t1102 t1103 _ ?side1 ?side2 A8.out).mono ?_); (case side1 => repeat (first | exact (Kd.C_below HR0_6.out HB.out) | (with_reducible refine yH ?_ _) | (with_reducible refine yF ?_ _) | (with_reducible refine yG ?_))); (case side2 => exact HC0_6.out); rintro e w19 ⟨rfl, hb⟩; refine ⟨_, rfl, ?_⟩; have n0_ := zA (blk_below (g := gb1101) (o := .cells #[.int .i64 a0_0, .int .i64 a0_1, .int .i64 a0_2, .int .i64 a0_3, .slice A0_4 l0_4.length c0_4, .int .i64 a0_5, .slice A0_6 l0_6.length c0_6, .int .i64 a0_7, .bool a0_8, .int .i64 a0_9, .int .i64 a0_10] 78 (0, 0)) (by (with_reducible repeat (first | refine zG ?_ _ | refine zH ?_ | refine zD ?_ _)); exact BK1101.out) hb); have n1_ := zA (below_step (by repeat (first | (with_reducible first | exact HB.out | apply zC | apply zB | apply zF | refine zE ?_ GE1101.out) | exact HB.out)) hb); clear BK1101; clear HB; have BK1101 := n0_; have HB := n1_; clear n0_ n1_; (try clear hb); (try clear hb2); (try clear hk); (try clear hi)))
   go_ret
   exact ⟨by first | rfl | (simp [errW_none, errW_some] <;> rfl) | (simp [*, errW_none, errW_some] <;> rfl), by repeat (first | (with_reducible first | exact HB.out | apply zC | apply zB | apply zF | refine zE ?_ GE1101.out) | exact HB.out)⟩
end Go.Proofs.Ytilimpjcdeeaiaa.G


namespace Go.Proofs.Ytilimpjcdeeaiaa.G
open Go.RowKit Go.Proofs.YtilimpjcdeeaiaaW.PrintWords Go.Proofs.YtilimpjcdeeaiaaW.PrintLast Go.Proofs.YtilimpjcdeeaiaaW.PrintMore
attribute [local go_sem] max2_int min2_int max_two min_two max_three min_three max_four min_four   -- for this text's walks alone
def spec_l19Bytes.l0 : Nat → List Int → List Int → Int → Option (Bool)
 | 0, _, _, _ => none
 | k + 1, x0, x1, x5 => if x5 < (x0.length : Int) then (if 0 ≤ x5 then (if x5 < (x1.length : Int) then (if (rd x0 x5) = (rd x1 x5) then (spec_l19Bytes.l0 k x0 x1 (wrap64 (x5 + 1))) else (some false)) else (none)) else (none)) else (some true)
def spec_l19Bytes.f (k : Nat) (l0 : List Int) (l1 : List Int) : Option (Bool) := if (l0.length : Int) = (l1.length : Int) then (spec_l19Bytes.l0 k l0 l1 0) else (some false)
theorem spec_l19Bytes.mono_l : ∀ k, (∀ y0 y1 y2, LeO (spec_l19Bytes.l0 k y0 y1 y2) (spec_l19Bytes.l0 (k + 1) y0 y1 y2))
 | 0 => fun _ _ _ r h => by simp [spec_l19Bytes.l0] at h
 | k + 1 => by
  have ih0 := spec_l19Bytes.mono_l k
  ·intro y0 y1 y2
   unfold spec_l19Bytes.l0
   repeat' first
   | (with_reducible exact ih0 _ _ _)
   | (with_reducible exact LeO.refl _)
   | (with_reducible exact LeO.none _)
   | (with_reducible refine LeO.ite ?_ ?_)
   | (with_reducible refine LeO.bind ?_ (fun _ => ?_))
   | exact ih0 _ _ _
   | exact LeO.none _
   | refine LeO.ite ?_ ?_
   | refine LeO.bind ?_ (fun _ => ?_)
theorem spec_l19Bytes.mono : ∀ a0 a1 k, LeO (spec_l19Bytes.f k a0 a1) (spec_l19Bytes.f (k + 1) a0 a1) := by
 intro a0 a1 k
 have ih0 := spec_l19Bytes.mono_l k
 unfold spec_l19Bytes.f
 repeat' first
   | (with_reducible exact ih0 _ _ _)
   | (with_reducible exact LeO.refl _)
   | (with_reducible exact LeO.none _)
   | (with_reducible refine LeO.ite ?_ ?_)
   | (with_reducible refine LeO.bind ?_ (fun _ => ?_))
   | exact ih0 _ _ _
   | exact LeO.none _
   | refine LeO.ite ?_ ?_
   | refine LeO.bind ?_ (fun _ => ?_)
set_option maxHeartbeats 8000000 in
set_option maxRecDepth 100000 in
theorem spec_l19Bytes.calls (k : Nat) (A0 : Option Addr) (c0 : Nat) (l0 : List Int) (A1 : Option Addr) (c1 : Nat) (l1 : List Int) (r : Bool) (w : World) (hr0 : Kd.C (Kd.int .u8) w A0 l0.length l0) (hc0 : l0.length ≤ c0) (hr1 : Kd.C (Kd.int .u8) w A1 l1.length l1) (hc1 : l1.length ≤ c1) (h : spec_l19Bytes.f k l0 l1 = some r) :
  Calls Try.prog 133 #[.slice A0 l0.length c0, .slice A1 l1.length c1] w fun e w' => e = .returned (.bool r) ∧ Drawn0 w w' := by
 have HR0 := zA hr0
 have HC0 := zA hc0
 clear hr0 hc0
 have HR1 := zA hr1
 have HC1 := zA hc1
 clear hr1 hc1
 have H : (if (l0.length : Int) = (l1.length : Int) then (spec_l19Bytes.l0 k l0 l1 0) else (some false)) = some r := h
 clear h
 by_cases c3 : (l0.length : Int) = (l1.length : Int)
 ·rw [if_pos c3] at H
  have c3b0 : ((l0.length : Int) == (l1.length : Int)) = true := beq_iff_eq.mpr c3
  have c3b1 : ((l0.length : Int) != (l1.length : Int)) = false := bne_eq_false_iff_eq.mpr c3
  have c3b2 : (l0.length == l1.length) = true := by first | simpa using c3 | (simp at c3 ⊢; omega)
  clear c3
  have H' := zA H
  clear H
  go_enter Try.func133, Try.ntmps133
  go_wp2
  repeat (go_quiet (fail); try go_wp2)
  go_loopg [5] k (fun kq v5 w' => ∃ (x5_1 : Int), v5 = .int .i64 x5_1 ∧ Aside0 (spec_l19Bytes.l0 kq l0 l1 x5_1 = some r) ∧ Aside0 (kq ≤ k) ∧ Drawn0 w w')
  case atStart => exact ⟨(0), (by first | rfl | (simp; done) | (simp [*]; done)), H', ⟨Nat.le_refl _⟩, by repeat (first | exact Drawn0.refl _ | apply Drawn0.step)⟩
  case round =>
   clear H'
   try clear c1
   try clear p2
   try clear c3
   try clear c3b0
   try clear c3b1
   try clear c3b2
   obtain ⟨x5_1, rfl, HA, HK1, ⟨m1, rfl⟩⟩ := hrel
   cases gk with
   | zero => exact absurd HA.out (by simp [spec_l19Bytes.l0])
   | succ k1 =>
    have H := HA.out
    clear HA
    simp only [spec_l19Bytes.l0] at H
    by_cases c4 : x5_1 < (l0.length : Int)
    ·rw [if_pos c4] at H
     have c4b0 : decide (x5_1 < (l0.length : Int)) = true := zT c4
     clear c4
     by_cases c5 : 0 ≤ x5_1
     ·rw [if_pos c5] at H
      have c5b0 : decide (0 ≤ x5_1) = true := zT c5
      clear c5
      by_cases c6 : x5_1 < (l1.length : Int)
      ·rw [if_pos c6] at H
       have c6b0 : decide (x5_1 < (l1.length : Int)) = true := zT c6
       clear c6
       by_cases c7 : (rd l0 x5_1) = (rd l1 x5_1)
       ·rw [if_pos c7] at H
        have c7b0 : ((rd l0 x5_1) == (rd l1 x5_1)) = true := beq_iff_eq.mpr c7
        have c7b1 : ((rd l0 x5_1) != (rd l1 x5_1)) = false := bne_eq_false_iff_eq.mpr c7
        clear c7
        have H' := zA H
        clear H
        have p1104 : 0 ≤ (x5_1 : Int) := zI (by first | (with_reducible assumption) | assumption)
        have q1104 : x5_1 < (l0.length : Int) := zI (by first | (with_reducible assumption) | assumption)
        obtain ⟨ad1104, e1104, hx1104_0⟩ := Kd.at_int HR0.out x5_1 p1104 q1104
        cases e1104
        replace p1104 := eq_true p1104
        replace q1104 := eq_true q1104
        have p1105 : 0 ≤ (x5_1 : Int) := zI (by first | (with_reducible assumption) | assumption)
        have q1105 : x5_1 < (l1.length : Int) := zI (by first | (with_reducible assumption) | assumption)
        obtain ⟨ad1105, e1105, hx1105_0⟩ := Kd.at_int HR1.out x5_1 p1105 q1105
        cases e1105
        replace p1105 := eq_true p1105
        replace q1105 := eq_true q1105
        go_wp2
        repeat (go_quiet (fail); try go_wp2)
        go_roundg k1
        case measure => have := HK1.out; omega
        case rel => exact ⟨(wrap64 (x5_1 + 1)), (by first | rfl | (simp; done) | (simp [*]; done)), H', ⟨by have := HK1.out; omega⟩, by repeat (first | exact Drawn0.refl _ | apply Drawn0.step)⟩
       ·rw [if_neg c7] at H
        have c7b0 : ((rd l0 x5_1) == (rd l1 x5_1)) = false := beq_eq_false_iff_ne.mpr c7
        have c7b1 : ((rd l0 x5_1) != (rd l1 x5_1)) = true := bne_iff_ne.mpr c7
        obtain rfl := Option.some.inj H
        have p1104 : 0 ≤ (x5_1 : Int) := zI (by first | (with_reducible assumption) | assumption)
        have q1104 : x5_1 < (l0.length : Int) := zI (by first | (with_reducible assumption) | assumption)
        obtain ⟨ad1104, e1104, hx1104_0⟩ := Kd.at_int HR0.out x5_1 p1104 q1104
        cases e1104
        replace p1104 := eq_true p1104
        replace q1104 := eq_true q1104
        have p1105 : 0 ≤ (x5_1 : Int) := zI (by first | (with_reducible assumption) | assumption)
        have q1105 : x5_1 < (l1.length : Int) := zI (by first | (with_reducible assumption) | assumption)
        obtain ⟨ad1105, e1105, hx1105_0⟩ := Kd.at_int HR1.out x5_1 p1105 q1105
        cases e1105
        replace p1105 := eq_true p1105
        replace q1105 := eq_true q1105
        go_wp2
        repeat (go_quiet (fail); try go_wp2)
        go_ret
        exact ⟨by first | rfl | (simp; done) | (simp [*]; done), by repeat (first | exact Drawn0.refl _ | apply Drawn0.step)⟩
      ·rw [if_neg c6] at H
       exact absurd H (by simp)
     ·rw [if_neg c5] at H
      exact absurd H (by simp)
    ·rw [if_neg c4] at H
     have c4b0 : decide (x5_1 < (l0.length : Int)) = false := decide_eq_false c4
     clear c4
     obtain rfl := Option.some.inj H
     go_wp2
     repeat (go_quiet (fail); try go_wp2)
     go_ret
     exact ⟨by first | rfl | (simp; done) | (simp [*]; done), by repeat (first | exact Drawn0.refl _ | apply Drawn0.step)⟩
 ·rw [if_neg c3] at H
  have c3b0 : ((l0.length : Int) == (l1.length : Int)) = false := beq_eq_false_iff_ne.mpr c3
  have c3b1 : ((l0.length : Int) != (l1.length : Int)) = true := bne_iff_ne.mpr c3
  have c3b2 : (l0.length == l1.length) = false := by first | simpa using c3 | (simp at c3 ⊢; omega)
  obtain rfl := Option.some.inj H
  go_enter Try.func133, Try.ntmps133
  go_wp2
  repeat (go_quiet (fail); try go_wp2)
  go_ret
  exact ⟨by first | rfl | (simp; done) | (simp [*]; done), by repeat (first | exact Drawn0.refl _ | apply Drawn0.step)⟩
end Go.Proofs.Ytilimpjcdeeaiaa.G


namespace Go.Proofs.Ytilimpjcdeeaiaa.G
open Go.RowKit Go.Proofs.YtilimpjcdeeaiaaW.PrintWords Go.Proofs.YtilimpjcdeeaiaaW.PrintLast Go.Proofs.YtilimpjcdeeaiaaW.PrintMore
attribute [local go_sem] max2_int min2_int max_two min_two max_three min_three max_four min_four   -- for this text's walks alone
def spec_l01Between.f (a0 : Int) (a1 : Int) (a2 : Int) : Option (Bool) := if a0 ≥ a1 then (some (decide (a0 ≤ a2))) else (some false)
set_option maxHeartbeats 8000000 in
set_option maxRecDepth 100000 in
theorem spec_l01Between.calls (a0 : Int) (a1 : Int) (a2 : Int) (r : Bool) (w : World) (h : spec_l01Between.f a0 a1 a2 = some r) :
  Calls Try.prog 58 #[.int .i64 a0, .int .i64 a1, .int .i64 a2] w fun e w' => e = .returned (.bool r) ∧ Drawn0 w w' := by
 have H : (if a0 ≥ a1 then (some (decide (a0 ≤ a2))) else (some false)) = some r := h
 clear h
 by_cases c4 : a0 ≥ a1
 ·rw [if_pos c4] at H
  have c4b0 : decide (a1 ≤ a0) = true := zT c4
  clear c4
  obtain rfl := Option.some.inj H
  go_enter Try.func58, Try.ntmps58
  go_wp2
  go_ret
  exact ⟨by first | rfl | (simp; done) | (simp [*]; done), by repeat (first | exact Drawn0.refl _ | apply Drawn0.step)⟩
 ·rw [if_neg c4] at H
  have c4b0 : decide (a1 ≤ a0) = false := decide_eq_false c4
  clear c4
  obtain rfl := Option.some.inj H
  go_enter Try.func58, Try.ntmps58
  go_wp2
  go_ret
  exact ⟨by first | rfl | (simp; done) | (simp [*]; done), by repeat (first | exact Drawn0.refl _ | apply Drawn0.step)⟩
theorem spec_l01Between.val (x lo hi : Int) : spec_l01Between.f x lo hi = some (decide (lo ≤ x) && decide (x ≤ hi)) := by
 unfold spec_l01Between.f
 by_cases h1 : x ≥ lo
 ·rw [if_pos h1]; simp [ge_iff_le.mp h1]
 ·rw [if_neg h1]; have : ¬ lo ≤ x := h1; simp [this]
end Go.Proofs.Ytilimpjcdeeaiaa.G


namespace Go.Proofs.Ytilimpjcdeeaiaa.G
open Go.RowKit Go.Proofs.YtilimpjcdeeaiaaW.PrintWords Go.Proofs.YtilimpjcdeeaiaaW.PrintLast Go.Proofs.YtilimpjcdeeaiaaW.PrintMore
attribute [local go_sem] max2_int min2_int max_two min_two max_three min_three max_four min_four   -- for this text's walks alone
def spec_l11Zero.l0 : Nat → List Int → Int → Option (Bool)
 | 0, _, _ => none
 | k + 1, x0, x3 => if x3 < (x0.length : Int) then (if 0 ≤ x3 then (if (rd x0 x3) = 0 then (spec_l11Zero.l0 k x0 (wrap64 (x3 + 1))) else (some false)) else (none)) else (some true)
def spec_l11Zero.f (k : Nat) (l0 : List Int) : Option (Bool) := spec_l11Zero.l0 k l0 0
theorem spec_l11Zero.mono_l : ∀ k, (∀ y0 y1, LeO (spec_l11Zero.l0 k y0 y1) (spec_l11Zero.l0 (k + 1) y0 y1))
 | 0 => fun _ _ r h => by simp [spec_l11Zero.l0] at h
 | k + 1 => by
  have ih0 := spec_l11Zero.mono_l k
  ·intro y0 y1
   unfold spec_l11Zero.l0
   repeat' first
   | (with_reducible exact ih0 _ _)
   | (with_reducible exact LeO.refl _)
   | (with_reducible exact LeO.none _)
   | (with_reducible refine LeO.ite ?_ ?_)
   | (with_reducible refine LeO.bind ?_ (fun _ => ?_))
   | exact ih0 _ _
   | exact LeO.none _
   | refine LeO.ite ?_ ?_
   | refine LeO.bind ?_ (fun _ => ?_)
theorem spec_l11Zero.mono : ∀ a0 k, LeO (spec_l11Zero.f k a0) (spec_l11Zero.f (k + 1) a0) := by
 intro a0 k
 have ih0 := spec_l11Zero.mono_l k
 unfold spec_l11Zero.f
 repeat' first
   | (with_reducible exact ih0 _ _)
   | (with_reducible exact LeO.refl _)
   | (with_reducible exact LeO.none _)
   | (with_reducible refine LeO.ite ?_ ?_)
   | (with_reducible refine LeO.bind ?_ (fun _ => ?_))
   | exact ih0 _ _
   | exact LeO.none _
   | refine LeO.ite ?_ ?_
   | refine LeO.bind ?_ (fun _ => ?_)
set_option maxHeartbeats 8000000 in
set_option maxRecDepth 100000 in
theorem spec_l11Zero.calls (k : Nat) (A0 : Option Addr) (c0 : Nat) (l0 : List Int) (r : Bool) (w : World) (hr0 : Kd.C (Kd.int .i64) w A0 l0.length l0) (hc0 : l0.length ≤ c0) (h : spec_l11Zero.f k l0 = some r) :
  Calls Try.prog 77 #[.slice A0 l0.length c0] w fun e w' => e = .returned (.bool r) ∧ Drawn0 w w' := by
 have HR0 := zA hr0
 have HC0 := zA hc0
 clear hr0 hc0
 have H : (spec_l11Zero.l0 k l0 0) = some r := h
 clear h
 have H' := zA H
 clear H
 go_enter Try.func77, Try.ntmps77
 go_wp2
 go_loopg [3] k (fun kq v3 w' => ∃ (x3_1 : Int), v3 = .int .i64 x3_1 ∧ Aside0 (spec_l11Zero.l0 kq l0 x3_1 = some r) ∧ Aside0 (kq ≤ k) ∧ Drawn0 w w')
 case atStart => exact ⟨(0), (by first | rfl | (simp; done) | (simp [*]; done)), H', ⟨Nat.le_refl _⟩, by repeat (first | exact Drawn0.refl _ | apply Drawn0.step)⟩
 case round =>
  clear H'
  obtain ⟨x3_1, rfl, HA, HK1, ⟨m1, rfl⟩⟩ := hrel
  cases gk with
  | zero => exact absurd HA.out (by simp [spec_l11Zero.l0])
  | succ k1 =>
   have H := HA.out
   clear HA
   simp only [spec_l11Zero.l0] at H
   by_cases c2 : x3_1 < (l0.length : Int)
   ·rw [if_pos c2] at H
    have c2b0 : decide (x3_1 < (l0.length : Int)) = true := zT c2
    clear c2
    by_cases c3 : 0 ≤ x3_1
    ·rw [if_pos c3] at H
     have c3b0 : decide (0 ≤ x3_1) = true := zT c3
     clear c3
     by_cases c4 : (rd l0 x3_1) = 0
     ·rw [if_pos c4] at H
      have c4b0 : ((rd l0 x3_1) == 0) = true := beq_iff_eq.mpr c4
      have c4b1 : ((rd l0 x3_1) != 0) = false := bne_eq_false_iff_eq.mpr c4
      clear c4
      have H' := zA H
      clear H
      have p888 : 0 ≤ (x3_1 : Int) := zI (by first | (with_reducible assumption) | assumption)
      have q888 : x3_1 < (l0.length : Int) := zI (by first | (with_reducible assumption) | assumption)
      obtain ⟨ad888, e888, hx888_0⟩ := Kd.at_int HR0.out x3_1 p888 q888
      cases e888
      replace p888 := eq_true p888
      replace q888 := eq_true q888
      go_wp2
      go_roundg k1
      case measure => have := HK1.out; omega
      case rel => exact ⟨(wrap64 (x3_1 + 1)), (by first | rfl | (simp; done) | (simp [*]; done)), H', ⟨by have := HK1.out; omega⟩, by repeat (first | exact Drawn0.refl _ | apply Drawn0.step)⟩
     ·rw [if_neg c4] at H
      have c4b0 : ((rd l0 x3_1) == 0) = false := beq_eq_false_iff_ne.mpr c4
      have c4b1 : ((rd l0 x3_1) != 0) = true := bne_iff_ne.mpr c4
      obtain rfl := Option.some.inj H
      have p888 : 0 ≤ (x3_1 : Int) := zI (by first | (with_reducible assumption) | assumption)
      have q888 : x3_1 < (l0.length : Int) := zI (by first | (with_reducible assumption) | assumption)
      obtain ⟨ad888, e888, hx888_0⟩ := Kd.at_int HR0.out x3_1 p888 q888
      cases e888
      replace p888 := eq_true p888
      replace q888 := eq_true q888
      go_wp2
      go_ret
      exact ⟨by first | rfl | (simp; done) | (simp [*]; done), by repeat (first | exact Drawn0.refl _ | apply Drawn0.step)⟩
    ·rw [if_neg c3] at H
     exact absurd H (by simp)
   ·rw [if_neg c2] at H
    have c2b0 : decide (x3_1 < (l0.length : Int)) = false := decide_eq_false c2
    clear c2
    obtain rfl := Option.some.inj H
    go_wp2
    go_ret
    exact ⟨by first | rfl | (simp; done) | (simp [*]; done), by repeat (first | exact Drawn0.refl _ | apply Drawn0.step)⟩
theorem spec_l11Zero.l0_ev (l : List Int) (hl : l.length ≤ 100000000) : ∀ (d i : Nat), i + d = l.length → Ev (fun k => spec_l11Zero.l0 k l (i : Int)) (allW 0 0 (l.drop i)) := by
 intro d
 induction d with
 | zero =>
  intro i hi
  refine Ev.step (fun _ => by rw [spec_l11Zero.l0]) (Ev.ng (by omega) (Ev.eq (Ev.now _) ?_))
  rw [show i = l.length by omega, List.drop_length]; rfl
 | succ d ih =>
  intro i hi
  have h : i < l.length := by omega
  rw [List.drop_eq_getElem_cons h]
  refine Ev.step (fun _ => by rw [spec_l11Zero.l0]) (Ev.ip (by omega) (Ev.ip (by omega) ?_))
  rw [rd_nat l i h]
  by_cases ha : l[i] = 0
  ·refine Ev.ip ha ?_
   rw [wrap_succ i (by omega)]
   refine Ev.eq (ih (i + 1) (by omega)) ?_
   rw [allW, allW, List.all_cons, ha]; rfl
  ·refine Ev.ng ha (Ev.eq (Ev.now _) ?_)
   rw [allW, List.all_cons, show (decide (0 ≤ l[i]) && decide (l[i] ≤ 0)) = false by rw [Bool.and_eq_false_iff, decide_eq_false_iff_not, decide_eq_false_iff_not]; omega, Bool.false_and]
theorem spec_l11Zero.ev (l : List Int) (hl : l.length ≤ 100000000) : Ev (fun k => spec_l11Zero.f k l) (allW 0 0 l) := spec_l11Zero.l0_ev l hl l.length 0 (Nat.zero_add _)
end Go.Proofs.Ytilimpjcdeeaiaa.G


namespace Go.Proofs.Ytilimpjcdeeaiaa.G
open Go.RowKit Go.Proofs.YtilimpjcdeeaiaaW.PrintWords Go.Proofs.YtilimpjcdeeaiaaW.PrintLast Go.Proofs.YtilimpjcdeeaiaaW.PrintMore
attribute [local go_sem] max2_int min2_int max_two min_two max_three min_three max_four min_four   -- for this text's walks alone
theorem eqA82 (d : Nat) (w : World) (x0 y0 : Int) (x1 y1 : Int) :
  (Op.equalIn (d + 2) 82 (.agg #[.int .i64 x0, .int .i64 x1]) (.agg #[.int .i64 y0, .int .i64 y1])).run Try.prog w = .ok (x0 == y0 && (x1 == y1)) w := by
 refine eqA_of Try.underlying82 (by kernel_rfl) ?_
 refine eqf_cons (by rfl) (by go_simp; rfl) (by go_simp; rfl) (by go_simp) ?_
 exact eqf_last (by rfl) (by go_simp; rfl) (by go_simp; rfl) (by go_simp)
end Go.Proofs.Ytilimpjcdeeaiaa.G


namespace Go.Proofs.Ytilimpjcdeeaiaa.G
open Go.RowKit Go.Proofs.YtilimpjcdeeaiaaW.PrintWords Go.Proofs.YtilimpjcdeeaiaaW.PrintLast Go.Proofs.YtilimpjcdeeaiaaW.PrintMore
attribute [local go_sem] max2_int min2_int max_two min_two max_three min_three max_four min_four   -- for this text's walks alone
attribute [local go_sem high] eqA82
def spec_l22Same.f (k : Nat) (l0_0 : List Int) (a0_1 : Int) (a0_2 : Bool) (a0_3 : Int) (a0_4 : Int) (l1_0 : List Int) (a1_1 : Int) (a1_2 : Bool) (a1_3 : Int) (a1_4 : Int) : Option (Bool) := if a0_1 = a1_1 then (if (a0_2 == a1_2) = true then (if (a0_3 == a1_3 && (a0_4 == a1_4)) = true then ((spec_l19Bytes.f k l0_0 l1_0).bind fun t1108 => (some t1108)) else (some false)) else (some false)) else (some false)
theorem spec_l22Same.mono : ∀ a0 a1 a2 a3 a4 a5 a6 a7 a8 a9 k, LeO (spec_l22Same.f k a0 a1 a2 a3 a4 a5 a6 a7 a8 a9) (spec_l22Same.f (k + 1) a0 a1 a2 a3 a4 a5 a6 a7 a8 a9) := by
 intro a0 a1 a2 a3 a4 a5 a6 a7 a8 a9 k
 unfold spec_l22Same.f
 repeat' first
   | (with_reducible exact spec_l19Bytes.mono _ _ _)
   | (with_reducible exact LeO.refl _)
   | (with_reducible exact LeO.none _)
   | (with_reducible refine LeO.ite ?_ ?_)
   | (with_reducible refine LeO.bind ?_ (fun _ => ?_))
   | exact spec_l19Bytes.mono _ _ _
   | exact LeO.none _
   | refine LeO.ite ?_ ?_
   | refine LeO.bind ?_ (fun _ => ?_)
set_option maxHeartbeats 8000000 in
set_option maxRecDepth 100000 in
theorem spec_l22Same.calls (k : Nat) (A0_0 : Option Addr) (c0_0 : Nat) (l0_0 : List Int) (a0_1 : Int) (a0_2 : Bool) (a0_3 : Int) (a0_4 : Int) (A1_0 : Option Addr) (c1_0 : Nat) (l1_0 : List Int) (a1_1 : Int) (a1_2 : Bool) (a1_3 : Int) (a1_4 : Int) (r : Bool) (w : World) (hr0_0 : Kd.C (Kd.int .u8) w A0_0 l0_0.length l0_0) (hc0_0 : l0_0.length ≤ c0_0) (hr1_0 : Kd.C (Kd.int .u8) w A1_0 l1_0.length l1_0) (hc1_0 : l1_0.length ≤ c1_0) (h : spec_l22Same.f k l0_0 a0_1 a0_2 a0_3 a0_4 l1_0 a1_1 a1_2 a1_3 a1_4 = some r) :
  Calls Try.prog 91 #[.agg #[.slice A0_0 l0_0.length c0_0, .int .i64 a0_1, .bool a0_2, .int .i64 a0_3, .int .i64 a0_4], .agg #[.slice A1_0 l1_0.length c1_0, .int .i64 a1_1, .bool a1_2, .int .i64 a1_3, .int .i64 a1_4]] w fun e w' => e = .returned (.bool r) ∧ Below w.heap.size w w' := by
 have hu84 := Try.underlying84
 have hu82 := Try.underlying82
 have HR0_0 := zA hr0_0
 have HC0_0 := zA hc0_0
 clear hr0_0 hc0_0
 have HR1_0 := zA hr1_0
 have HC1_0 := zA hc1_0
 clear hr1_0 hc1_0
 have HB := zA (Below.refl w.heap.size w)
 have H : (if a0_1 = a1_1 then (if (a0_2 == a1_2) = true then (if (a0_3 == a1_3 && (a0_4 == a1_4)) = true then ((spec_l19Bytes.f k l0_0 l1_0).bind fun t1108 => (some t1108)) else (some false)) else (some false)) else (some false)) = some r := h
 clear h
 by_cases c3 : a0_1 = a1_1
 ·rw [if_pos c3] at H
  have c3b0 : (a0_1 == a1_1) = true := beq_iff_eq.mpr c3
  have c3b1 : (a0_1 != a1_1) = false := bne_eq_false_iff_eq.mpr c3
  clear c3
  by_cases c4 : (a0_2 == a1_2) = true
  ·rw [if_pos c4] at H
   have c4b0 : (a0_2 == a1_2) = true := c4
   (try (have c4b1 : decide (a0_2 = a1_2) = true := by simpa using c4))
   (try (have c4b2 : (a0_2 == a1_2) = true := by simpa using c4))
   clear c4
   by_cases c5 : (a0_3 == a1_3 && (a0_4 == a1_4)) = true
   ·rw [if_pos c5] at H
    have c5b0 : (a0_3 == a1_3 && (a0_4 == a1_4)) = true := c5
    (try (have c5b1 : decide (a0_3 = a1_3 && (a0_4 == a1_4)) = true := by simpa using c5))
    (try (have c5b2 : (a0_3 == a1_3 && (a0_4 == a1_4)) = true := by simpa using c5))
    clear c5
    replace H := Option.bind_eq_some_iff.mp H
    obtain ⟨t1108, A60, H⟩ := H
    replace H : (some t1108) = some r := H
    have A6 := zA A60
    clear A60
    obtain rfl := Option.some.inj H
    go_enter Try.func91, Try.ntmps91
    go_wp2_with (first | ((with_reducible refine gate_dst (N := 2) rfl ?_); refine box_event ?hg (N := 2) ?hd (cs := #[.slice A0_0 l0_0.length c0_0, .int .i64 a0_1, .bool a0_2, .int .i64 a0_3, .int .i64 a0_4]) (t := 84) ?hr ?_; (case hd => rfl); (case hg => rfl); (case hr => first | (go_simp; done) | (go_simp; rfl)); intro gb1106 hg w7 hbox hb; have n0_ := zA (below_step (by repeat (first | (with_reducible first | exact HB.out | apply zC | apply zB | apply zF) | exact HB.out)) hb); have n1_ := zA (hbox); have n2_ := zA ((by rw [hg]; exact (zL (by repeat (first | (with_reducible first | exact HB.out | apply zC | apply zB | apply zF) | exact HB.out))) : w.heap.size ≤ gb1106)); have n3_ := zA ((by rw [hg]; exact (zL (by repeat (first | (with_reducible first | exact HB.out | apply zC | apply zB | apply zF) | exact HB.out))) : w.heap.size ≤ gb1106)); clear HB; have HB := n0_; have BK1106 := n1_; have GW1106 := n2_; have GE1106 := n3_; clear n0_ n1_ n2_ n3_; clear hb hbox hg) | ((with_reducible refine gate_dst (N := 3) rfl ?_); refine box_event ?hg (N := 3) ?hd (cs := #[.slice A1_0 l1_0.length c1_0, .int .i64 a1_1, .bool a1_2, .int .i64 a1_3, .int .i64 a1_4]) (t := 84) ?hr ?_; (case hd => rfl); (case hg => rfl); (case hr => first | (go_simp; done) | (go_simp; rfl)); intro gb1107 hg w8 hbox hb; have n0_ := zA (blk_below (g := gb1106) (o := .cells #[.slice A0_0 l0_0.length c0_0, .int .i64 a0_1, .bool a0_2, .int .i64 a0_3, .int .i64 a0_4] 84 (0, 0)) (by (with_reducible repeat (first | refine zG ?_ _ | refine zH ?_ | refine zD ?_ _)); exact BK1106.out) hb); have n1_ := zA (below_step (by repeat (first | (with_reducible first | exact HB.out | apply zC | apply zB | apply zF | refine zE ?_ GE1106.out) | exact HB.out)) hb); have n2_ := zA (hbox); have n3_ := zA ((by rw [hg]; exact (zL (by repeat (first | (with_reducible first | exact HB.out | apply zC | apply zB | apply zF | refine zE ?_ GE1106.out) | exact HB.out))) : w.heap.size ≤ gb1107)); have n4_ := zA ((by rw [hg]; exact (zL (by repeat (first | (with_reducible first | exact HB.out | apply zC | apply zB | apply zF | refine zE ?_ GE1106.out) | exact HB.out))) : w.heap.size ≤ gb1107)); have n5_ := zA ((by rw [hg]; exact Nat.ne_of_lt (blk_lt (g := gb1106) (o := .cells #[.slice A0_0 l0_0.length c0_0, .int .i64 a0_1, .bool a0_2, .int .i64 a0_3, .int .i64 a0_4] 84 (0, 0)) (by (with_reducible repeat (first | refine zG ?_ _ | refine zH ?_ | refine zD ?_ _)); exact BK1106.out)) : gb1106 ≠ gb1107)); have n6_ := zA ((by rw [hg]; exact Nat.ne_of_gt (blk_lt (g := gb1106) (o := .cells #[.slice A0_0 l0_0.length c0_0, .int .i64 a0_1, .bool a0_2, .int .i64 a0_3, .int .i64 a0_4] 84 (0, 0)) (by (with_reducible repeat (first | refine zG ?_ _ | refine zH ?_ | refine zD ?_ _)); exact BK1106.out)) : gb1107 ≠ gb1106)); clear BK1106; clear HB; have BK1106 := n0_; have HB := n1_; have BK1107 := n2_; have GW1107 := n3_; have GE1107 := n4_; have NB1106_1107 := n5_; have NB1107_1106 := n6_; clear n0_ n1_ n2_ n3_ n4_ n5_ n6_; clear hb hbox hg; have hnb9 := NB1106_1107.out; have hnc9 := NB1107_1106.out; have hcz10_0 : w8.cell? ⟨gb1106, 0, none⟩ = some (.slice A0_0 l0_0.length c0_0) := (zK BK1106.out 0).trans rfl; have hcz10_1 : w8.cell? ⟨gb1106, 1, none⟩ = some (.int .i64 a0_1) := (zK BK1106.out 1).trans rfl; have hcz10_2 : w8.cell? ⟨gb1106, 2, none⟩ = some (.bool a0_2) := (zK BK1106.out 2).trans rfl; have hcz10_3 : w8.cell? ⟨gb1106, 3, none⟩ = some (.int .i64 a0_3) := (zK BK1106.out 3).trans rfl; have hcz10_4 : w8.cell? ⟨gb1106, 4, none⟩ = some (.int .i64 a0_4) := (zK BK1106.out 4).trans rfl; have hfz10_0 := zJ BK1106.out 0; have hfz10_1 := zJ BK1106.out 1; have hfz10_2 := zJ BK1106.out 2; have hfz10_3 := zJ BK1106.out 3; have hfz10_4 := zJ BK1106.out 4; have hcz11_0 : w8.cell? ⟨gb1107, 0, none⟩ = some (.slice A1_0 l1_0.length c1_0) := (zK BK1107.out 0).trans rfl; have hcz11_1 : w8.cell? ⟨gb1107, 1, none⟩ = some (.int .i64 a1_1) := (zK BK1107.out 1).trans rfl; have hcz11_2 : w8.cell? ⟨gb1107, 2, none⟩ = some (.bool a1_2) := (zK BK1107.out 2).trans rfl; have hcz11_3 : w8.cell? ⟨gb1107, 3, none⟩ = some (.int .i64 a1_3) := (zK BK1107.out 3).trans rfl; have hcz11_4 : w8.cell? ⟨gb1107, 4, none⟩ = some (.int .i64 a1_4) := (zK BK1107.out 4).trans rfl; have hfz11_0 := zJ BK1107.out 0; have hfz11_1 := zJ BK1107.out 1; have hfz11_2 := zJ BK1107.out 2; have hfz11_3 := zJ BK1107.out 3; have hfz11_4 := zJ BK1107.out 4) | (go_at_call 133; (with_reducible refine (spec_l19Bytes.calls k _ _ l0_0 _ _ l1_0 t1108 _ ?side1 ?side2 ?side3 ?side4 A6.out).mono ?_); (case side1 => repeat (first | exact (Kd.C_below HR0_0.out HB.out) | (with_reducible refine yH ?_ _) | (with_reducible refine yF ?_ _) | (with_reducible refine yG ?_))); (case side2 => exact HC0_0.out); (case side3 => repeat (first | exact (Kd.C_below HR1_0.out HB.out) | (with_reducible refine yH ?_ _) | (with_reducible refine yF ?_ _) | (with_reducible refine yG ?_))); (case side4 => exact HC1_0.out); rintro e w' ⟨rfl, ⟨nd, rfl⟩⟩))
    go_ret
    exact ⟨by first | rfl | (simp [errW_none, errW_some] <;> rfl) | (simp [*, errW_none, errW_some] <;> rfl), by repeat (first | (with_reducible first | exact HB.out | apply zC | apply zB | apply zF | refine zE ?_ GE1106.out | refine zE ?_ GE1107.out) | exact HB.out)⟩
   ·rw [if_neg c5] at H
    have c5b0 : (a0_3 == a1_3 && (a0_4 == a1_4)) = false := by simpa using c5
    (try (have c5b1 : decide (a0_3 = a1_3 && (a0_4 == a1_4)) = false := by simpa using c5))
    (try (have c5b2 : (a0_3 == a1_3 && (a0_4 == a1_4)) = false := by simpa using c5))
    (try (have c5b3 : ¬ (a0_3 = a1_3 && (a0_4 == a1_4)) := by simpa using c5))
    clear c5
    obtain rfl := Option.some.inj H
    go_enter Try.func91, Try.ntmps91
    go_wp2_with (first | ((with_reducible refine gate_dst (N := 2) rfl ?_); refine box_event ?hg (N := 2) ?hd (cs := #[.slice A0_0 l0_0.length c0_0, .int .i64 a0_1, .bool a0_2, .int .i64 a0_3, .int .i64 a0_4]) (t := 84) ?hr ?_; (case hd => rfl); (case hg => rfl); (case hr => first | (go_simp; done) | (go_simp; rfl)); intro gb1106 hg w12 hbox hb; have n0_ := zA (below_step (by repeat (first | (with_reducible first | exact HB.out | apply zC | apply zB | apply zF) | exact HB.out)) hb); have n1_ := zA (hbox); have n2_ := zA ((by rw [hg]; exact (zL (by repeat (first | (with_reducible first | exact HB.out | apply zC | apply zB | apply zF) | exact HB.out))) : w.heap.size ≤ gb1106)); have n3_ := zA ((by rw [hg]; exact (zL (by repeat (first | (with_reducible first | exact HB.out | apply zC | apply zB | apply zF) | exact HB.out))) : w.heap.size ≤ gb1106)); clear HB; have HB := n0_; have BK1106 := n1_; have GW1106 := n2_; have GE1106 := n3_; clear n0_ n1_ n2_ n3_; clear hb hbox hg) | ((with_reducible refine gate_dst (N := 3) rfl ?_); refine box_event ?hg (N := 3) ?hd (cs := #[.slice A1_0 l1_0.length c1_0, .int .i64 a1_1, .bool a1_2, .int .i64 a1_3, .int .i64 a1_4]) (t := 84) ?hr ?_; (case hd => rfl); (case hg => rfl); (case hr => first | (go_simp; done) | (go_simp; rfl)); intro gb1107 hg w13 hbox hb; have n0_ := zA (blk_below (g := gb1106) (o := .cells #[.slice A0_0 l0_0.length c0_0, .int .i64 a0_1, .bool a0_2, .int .i64 a0_3, .int .i64 a0_4] 84 (0, 0)) (by (with_reducible repeat (first | refine zG ?_ _ | refine zH ?_ | refine zD ?_ _)); exact BK1106.out) hb); have n1_ := zA (below_step (by repeat (first | (with_reducible first | exact HB.out | apply zC | apply zB | apply zF | refine zE ?_ GE1106.out) | exact HB.out)) hb); have n2_ := zA (hbox); have n3_ := zA ((by rw [hg]; exact (zL (by repeat (first | (with_reducible first | exact HB.out | apply zC | apply zB | apply zF | refine zE ?_ GE1106.out) | exact HB.out))) : w.heap.size ≤ gb1107)); have n4_ := zA ((by rw [hg]; exact (zL (by repeat (first | (with_reducible first | exact HB.out | apply zC | apply zB | apply zF | refine zE ?_ GE1106.out) | exact HB.out))) : w.heap.size ≤ gb1107)); have n5_ := zA ((by rw [hg]; exact Nat.ne_of_lt (blk_lt (g := gb1106) (o := .cells #[.slice A0_0 l0_0.length c0_0, .int .i64 a0_1, .bool a0_2, .int .i64 a0_3, .int .i64 a0_4] 84 (0, 0)) (by (with_reducible repeat (first | refine zG ?_ _ | refine zH ?_ | refine zD ?_ _)); exact BK1106.out)) : gb1106 ≠ gb1107)); have n6_ := zA ((by rw [hg]; exact Nat.ne_of_gt (blk_lt (g := gb1106) (o := .cells #[.slice A0_0 l0_0.length c0_0, .int .i64 a0_1, .bool a0_2, .int .i64 a0_3, .int .i64 a0_4] 84 (0, 0)) (by (with_reducible repeat (first | refine zG ?_ _ | refine zH ?_ | refine zD ?_ _)); exact BK1106.out)) : gb1107 ≠ gb1106)); clear BK1106; clear HB; have BK1106 := n0_; have HB := n1_; have BK1107 := n2_; have GW1107 := n3_; have GE1107 := n4_; have NB1106_1107 := n5_; have NB1107_1106 := n6_; clear n0_ n1_ n2_ n3_ n4_ n5_ n6_; clear hb hbox hg; have hnb14 := NB1106_1107.out; have hnc14 := NB1107_1106.out; have hcz15_0 : w13.cell? ⟨gb1106, 0, none⟩ = some (.slice A0_0 l0_0.length c0_0) := (zK BK1106.out 0).trans rfl; have hcz15_1 : w13.cell? ⟨gb1106, 1, none⟩ = some (.int .i64 a0_1) := (zK BK1106.out 1).trans rfl; have hcz15_2 : w13.cell? ⟨gb1106, 2, none⟩ = some (.bool a0_2) := (zK BK1106.out 2).trans rfl; have hcz15_3 : w13.cell? ⟨gb1106, 3, none⟩ = some (.int .i64 a0_3) := (zK BK1106.out 3).trans rfl; have hcz15_4 : w13.cell? ⟨gb1106, 4, none⟩ = some (.int .i64 a0_4) := (zK BK1106.out 4).trans rfl; have hfz15_0 := zJ BK1106.out 0; have hfz15_1 := zJ BK1106.out 1; have hfz15_2 := zJ BK1106.out 2; have hfz15_3 := zJ BK1106.out 3; have hfz15_4 := zJ BK1106.out 4; have hcz16_0 : w13.cell? ⟨gb1107, 0, none⟩ = some (.slice A1_0 l1_0.length c1_0) := (zK BK1107.out 0).trans rfl; have hcz16_1 : w13.cell? ⟨gb1107, 1, none⟩ = some (.int .i64 a1_1) := (zK BK1107.out 1).trans rfl; have hcz16_2 : w13.cell? ⟨gb1107, 2, none⟩ = some (.bool a1_2) := (zK BK1107.out 2).trans rfl; have hcz16_3 : w13.cell? ⟨gb1107, 3, none⟩ = some (.int .i64 a1_3) := (zK BK1107.out 3).trans rfl; have hcz16_4 : w13.cell? ⟨gb1107, 4, none⟩ = some (.int .i64 a1_4) := (zK BK1107.out 4).trans rfl; have hfz16_0 := zJ BK1107.out 0; have hfz16_1 := zJ BK1107.out 1; have hfz16_2 := zJ BK1107.out 2; have hfz16_3 := zJ BK1107.out 3; have hfz16_4 := zJ BK1107.out 4))
    go_ret
    exact ⟨by first | rfl | (simp [errW_none, errW_some] <;> rfl) | (simp [*, errW_none, errW_some] <;> rfl), by repeat (first | (with_reducible first | exact HB.out | apply zC | apply zB | apply zF | refine zE ?_ GE1106.out | refine zE ?_ GE1107.out) | exact HB.out)⟩
  ·rw [if_neg c4] at H
   have c4b0 : (a0_2 == a1_2) = false := by simpa using c4
   (try (have c4b1 : decide (a0_2 = a1_2) = false := by simpa using c4))
   (try (have c4b2 : (a0_2 == a1_2) = false := by simpa using c4))
   (try (have c4b3 : ¬ (a0_2 = a1_2) := by simpa using c4))
   clear c4
   obtain rfl := Option.some.inj H
   go_enter Try.func91, Try.ntmps91
   go_wp2_with (first | ((with_reducible refine gate_dst (N := 2) rfl ?_); refine box_event ?hg (N := 2) ?hd (cs := #[.slice A0_0 l0_0.length c0_0, .int .i64 a0_1, .bool a0_2, .int .i64 a0_3, .int .i64 a0_4]) (t := 84) ?hr ?_; (case hd => rfl); (case hg => rfl); (case hr => first | (go_simp; done) | (go_simp; rfl)); intro gb1106 hg w17 hbox hb; have n0_ := zA (below_step (by repeat (first | (with_reducible first | exact HB.out | apply zC | apply zB | apply zF) | exact HB.out)) hb); have n1_ := zA (hbox); have n2_ := zA ((by rw [hg]; exact (zL (by repeat (first | (with_reducible first | exact HB.out | apply zC | apply zB | apply zF) | exact HB.out))) : w.heap.size ≤ gb1106)); have n3_ := zA ((by rw [hg]; exact (zL (by repeat (first | (with_reducible first | exact HB.out | apply zC | apply zB | apply zF) | exact HB.out))) : w.heap.size ≤ gb1106)); clear HB; have HB := n0_; have BK1106 := n1_; have GW1106 := n2_; have GE1106 := n3_; clear n0_ n1_ n2_ n3_; clear hb hbox hg) | ((with_reducible refine gate_dst (N := 3) rfl ?_); refine box_event ?hg (N := 3) ?hd (cs := #[.slice A1_0 l1_0.length c1_0, .int .i64 a1_1, .bool a1_2, .int .i64 a1_3, .int .i64 a1_4]) (t := 84) ?hr ?_; (case hd => rfl); (case hg => rfl); (case hr => first | (go_simp; done) | (go_simp; rfl)); intro gb1107 hg w18 hbox hb; have n0_ := zA (blk_below (g := gb1106) (o := .cells #[.slice A0_0 l0_0.length c0_0, .int .i64 a0_1, .bool a0_2, .int .i64 a0_3, .int .i64 a0_4] 84 (0, 0)) (by (with_reducible repeat (first | refine zG ?_ _ | refine zH ?_ | refine zD ?_ _)); exact BK1106.out) hb); have n1_ := zA (below_step (by repeat (first | (with_reducible first | exact HB.out | apply zC | apply zB | apply zF | refine zE ?_ GE1106.out) | exact HB.out)) hb); have n2_ := zA (hbox); have n3_ := zA ((by rw [hg]; exact (zL (by repeat (first | (with_reducible first | exact HB.out | apply zC | apply zB | apply zF | refine zE ?_ GE1106.out) | exact HB.out))) : w.heap.size ≤ gb1107)); have n4_ := zA ((by rw [hg]; exact (zL (by repeat (first | (with_reducible first | exact HB.out | apply zC | apply zB | apply zF | refine zE ?_ GE1106.out) | exact HB.out))) : w.heap.size ≤ gb1107)); have n5_ := zA ((by rw [hg]; exact Nat.ne_of_lt (blk_lt (g := gb1106) (o := .cells #[.slice A0_0 l0_0.length c0_0, .int .i64 a0_1, .bool a0_2, .int .i64 a0_3, .int .i64 a0_4] 84 (0, 0)) (by (with_reducible repeat (first | refine zG ?_ _ | refine zH ?_ | refine zD ?_ _)); exact BK1106.out)) : gb1106 ≠ gb1107)); have n6_ := zA ((by rw [hg]; exact Nat.ne_of_gt (blk_lt (g := gb1106) (o := .cells #[.slice A0_0 l0_0.length c0_0, .int .i64 a0_1, .bool a0_2, .int .i64 a0_3, .int .i64 a0_4] 84 (0, 0)) (by (with_reducible repeat (first | refine zG ?_ _ | refine zH ?_ | refine zD ?_ _)); exact BK1106.out)) : gb1107 ≠ gb1106)); clear BK1106; clear HB; have BK1106 := n0_; have HB := n1_; have BK1107 := n2_; have GW1107 := n3_; have GE1107 := n4_; have NB1106_1107 := n5_; have NB1107_1106 := n6_; clear n0_ n1_ n2_ n3_ n4_ n5_ n6_; clear hb hbox hg; have hnb19 := NB1106_1107.out; have hnc19 := NB1107_1106.out; have hcz20_0 : w18.cell? ⟨gb1106, 0, none⟩ = some (.slice A0_0 l0_0.length c0_0) := (zK BK1106.out 0).trans rfl; have hcz20_1 : w18.cell? ⟨gb1106, 1, none⟩ = some (.int .i64 a0_1) := (zK BK1106.out 1).trans rfl; have hcz20_2 : w18.cell? ⟨gb1106, 2, none⟩ = some (.bool a0_2) := (zK BK1106.out 2).trans rfl; have hcz20_3 : w18.cell? ⟨gb1106, 3, none⟩ = some (.int .i64 a0_3) := (zK BK1106.out 3).trans rfl; have hcz20_4 : w18.cell? ⟨gb1106, 4, none⟩ = some (.int .i64 a0_4) := (zK BK1106.out 4).trans rfl; have hfz20_0 := zJ BK1106.out 0; have hfz20_1 := zJ BK1106.out 1; have hfz20_2 := zJ BK1106.out 2; have hfz20_3 := zJ BK1106.out 3; have hfz20_4 := zJ BK1106.out 4; have hcz21_0 : w18.cell? ⟨gb1107, 0, none⟩ = some (.slice A1_0 l1_0.length c1_0) := (zK BK1107.out 0).trans rfl; have hcz21_1 : w18.cell? ⟨gb1107, 1, none⟩ = some (.int .i64 a1_1) := (zK BK1107.out 1).trans rfl; have hcz21_2 : w18.cell? ⟨gb1107, 2, none⟩ = some (.bool a1_2) := (zK BK1107.out 2).trans rfl; have hcz21_3 : w18.cell? ⟨gb1107, 3, none⟩ = some (.int .i64 a1_3) := (zK BK1107.out 3).trans rfl; have hcz21_4 : w18.cell? ⟨gb1107, 4, none⟩ = some (.int .i64 a1_4) := (zK BK1107.out 4).trans rfl; have hfz21_0 := zJ BK1107.out 0; have hfz21_1 := zJ BK1107.out 1; have hfz21_2 := zJ BK1107.out 2; have hfz21_3 := zJ BK1107.out 3; have hfz21_4 := zJ BK1107.out 4))
   go_ret
   exact ⟨by first | rfl | (simp [errW_none, errW_some] <;> rfl) | (simp [*, errW_none, errW_some] <;> rfl), by repeat (first | (with_reducible first | exact HB.out | apply zC | apply zB | apply zF | refine zE ?_ GE1106.out | refine zE ?_ GE1107.out) | exact HB.out)⟩
 ·rw [if_neg c3] at H
  have c3b0 : (a0_1 == a1_1) = false := beq_eq_false_iff_ne.mpr c3
  have c3b1 : (a0_1 != a1_1) = true := bne_iff_ne.mpr c3
  obtain rfl := Option.some.inj H
  go_enter Try.func91, Try.ntmps91
  go_wp2_with (first | ((with_reducible refine gate_dst (N := 2) rfl ?_); refine box_event ?hg (N := 2) ?hd (cs := #[.slice A0_0 l0_0.length c0_0, .int .i64 a0_1, .bool a0_2, .int .i64 a0_3, .int .i64 a0_4]) (t := 84) ?hr ?_; (case hd => rfl); (case hg => rfl); (case hr => first | (go_simp; done) | (go_simp; rfl)); intro gb1106 hg w22 hbox hb; have n0_ := zA (below_step (by repeat (first | (with_reducible first | exact HB.out | apply zC | apply zB | apply zF) | exact HB.out)) hb); have n1_ := zA (hbox); have n2_ := zA ((by rw [hg]; exact (zL (by repeat (first | (with_reducible first | exact HB.out | apply zC | apply zB | apply zF) | exact HB.out))) : w.heap.size ≤ gb1106)); have n3_ := zA ((by rw [hg]; exact (zL (by repeat (first | (with_reducible first | exact HB.out | apply zC | apply zB | apply zF) | exact HB.out))) : w.heap.size ≤ gb1106)); clear HB; have HB := n0_; have BK1106 := n1_; have GW1106 := n2_; have GE1106 := n3_; clear n0_ n1_ n2_ n3_; clear hb hbox hg) | ((with_reducible refine gate_dst (N := 3) rfl ?_); refine box_event ?hg (N := 3) ?hd (cs := #[.slice A1_0 l1_0.length c1_0, .int .i64 a1_1, .bool a1_2, .int .i64 a1_3, .int .i64 a1_4]) (t := 84) ?hr ?_; (case hd => rfl); (case hg => rfl); (case hr => first | (go_simp; done) | (go_simp; rfl)); intro gb1107 hg w23 hbox hb; have n0_ := zA (blk_below (g := gb1106) (o := .cells #[.slice A0_0 l0_0.length c0_0, .int .i64 a0_1, .bool a0_2, .int .i64 a0_3, .int .i64 a0_4] 84 (0, 0)) (by (with_reducible repeat (first | refine zG ?_ _ | refine zH ?_ | refine zD ?_ _)); exact BK1106.out) hb); have n1_ := zA (below_step (by repeat (first | (with_reducible first | exact HB.out | apply zC | apply zB | apply zF | refine zE ?_ GE1106.out) | exact HB.out)) hb); have n2_ := zA (hbox); have n3_ := zA ((by rw [hg]; exact (zL (by repeat (first | (with_reducible first | exact HB.out | apply zC | apply zB | apply zF | refine zE ?_ GE1106.out) | exact HB.out))) : w.heap.size ≤ gb1107)); have n4_ := zA ((by rw [hg]; exact (zL (by repeat (first | (with_reducible first | exact HB.out | apply zC | apply zB | apply zF | refine zE ?_ GE1106.out) | exact HB.out))) : w.heap.size ≤ gb1107)); have n5_ := zA ((by rw [hg]; exact Nat.ne_of_lt (blk_lt (g := gb1106) (o := .cells #[.slice A0_0 l0_0.length c0_0, .int .i64 a0_1, .bool a0_2, .int .i64 a0_3, .int .i64 a0_4] 84 (0, 0)) (by (with_reducible repeat (first | refine zG ?_ _ | refine zH ?_ | refine zD ?_ _)); exact BK1106.out)) : gb1106 ≠ gb1107)); have n6_ := zA ((by rw [hg]; exact Nat.ne_of_gt (blk_lt (g := gb1106) (o := .cells #[.slice A0_0 l0_0.length c0_0, .int .i64 a0_1, .bool a0_2, .int .i64 a0_3, .int .i64 a0_4] 84 (0, 0)) (by (with_reducible repeat (first | refine zG ?_ _ | refine zH ?_ | refine zD ?_ _)); exact BK1106.out)) : gb1107 ≠ gb1106)); clear BK1106; clear HB; have BK1106 := n0_; have HB := n1_; have BK1107 := n2_; have GW1107 := n3_; have GE1107 := n4_; have NB1106_1107 := n5_; have NB1107_1106 := n6_; clear n0_ n1_ n2_ n3_ n4_ n5_ n6_; clear hb hbox hg; have hnb24 := NB1106_1107.out; have hnc24 := NB1107_1106.out; have hcz25_0 : w23.cell? ⟨gb1106, 0, none⟩ = some (.slice A0_0 l0_0.length c0_0) := (zK BK1106.out 0).trans rfl; have hcz25_1 : w23.cell? ⟨gb1106, 1, none⟩ = some (.int .i64 a0_1) := (zK BK1106.out 1).trans rfl; have hcz25_2 : w23.cell? ⟨gb1106, 2, none⟩ = some (.bool a0_2) := (zK BK1106.out 2).trans rfl; have hcz25_3 : w23.cell? ⟨gb1106, 3, none⟩ = some (.int .i64 a0_3) := (zK BK1106.out 3).trans rfl; have hcz25_4 : w23.cell? ⟨gb1106, 4, none⟩ = some (.int .i64 a0_4) := (zK BK1106.out 4).trans rfl; have hfz25_0 := zJ BK1106.out 0; have hfz25_1 := zJ BK1106.out 1; have hfz25_2 := zJ BK1106.out 2; have hfz25_3 := zJ BK1106.out 3; have hfz25_4 := zJ BK1106.out 4; have hcz26_0 : w23.cell? ⟨gb1107, 0, none⟩ = some (.slice A1_0 l1_0.length c1_0) := (zK BK1107.out 0).trans rfl; have hcz26_1 : w23.cell? ⟨gb1107, 1, none⟩ = some (.int .i64 a1_1) := (zK BK1107.out 1).trans rfl; have hcz26_2 : w23.cell? ⟨gb1107, 2, none⟩ = some (.bool a1_2) := (zK BK1107.out 2).trans rfl; have hcz26_3 : w23.cell? ⟨gb1107, 3, none⟩ = some (.int .i64 a1_3) := (zK BK1107.out 3).trans rfl; have hcz26_4 : w23.cell? ⟨gb1107, 4, none⟩ = some (.int .i64 a1_4) := (zK BK1107.out 4).trans rfl; have hfz26_0 := zJ BK1107.out 0; have hfz26_1 := zJ BK1107.out 1; have hfz26_2 := zJ BK1107.out 2; have hfz26_3 := zJ BK1107.out 3; have hfz26_4 := zJ BK1107.out 4))
  go_ret
  exact ⟨by first | rfl | (simp [errW_none, errW_some] <;> rfl) | (simp [*, errW_none, errW_some] <;> rfl), by repeat (first | (with_reducible first | exact HB.out | apply zC | apply zB | apply zF | refine zE ?_ GE1106.out | refine zE ?_ GE1107.out) | exact HB.out)⟩
end Go.Proofs.Ytilimpjcdeeaiaa.G


namespace Go.Proofs.Ytilimpjcdeeaiaa.G
open Go.RowKit Go.Proofs.YtilimpjcdeeaiaaW.PrintWords Go.Proofs.YtilimpjcdeeaiaaW.PrintLast Go.Proofs.YtilimpjcdeeaiaaW.PrintMore
attribute [local go_sem] max2_int min2_int max_two min_two max_three min_three max_four min_four   -- for this text's walks alone
def spec_l22None.f (a0_0 : Int) (a0_1 : Int) (a0_2 : Int) (l0_3 : List (List Int)) : Option (Bool) := if a0_0 = 0 then (if a0_1 = 0 then (if a0_2 = 0 then (some ((l0_3.length : Int) == 0)) else (some false)) else (some false)) else (some false)
set_option maxHeartbeats 8000000 in
set_option maxRecDepth 100000 in
theorem spec_l22None.calls (a0_0 : Int) (a0_1 : Int) (a0_2 : Int) (A0_3 : Option Addr) (c0_3 : Nat) (l0_3 : List (List Int)) (r : Bool) (w : World) (hr0_3 : Kd.C (Kd.slice 3 (Kd.int .i64)) w A0_3 l0_3.length l0_3) (hc0_3 : l0_3.length ≤ c0_3) (h : spec_l22None.f a0_0 a0_1 a0_2 l0_3 = some r) :
  Calls Try.prog 92 #[.agg #[.int .i64 a0_0, .int .i64 a0_1, .int .i64 a0_2, .slice A0_3 l0_3.length c0_3]] w fun e w' => e = .returned (.bool r) ∧ Below w.heap.size w w' := by
 have hu81 := Try.underlying81
 have HR0_3 := zA hr0_3
 have HC0_3 := zA hc0_3
 clear hr0_3 hc0_3
 have HB := zA (Below.refl w.heap.size w)
 have H : (if a0_0 = 0 then (if a0_1 = 0 then (if a0_2 = 0 then (some ((l0_3.length : Int) == 0)) else (some false)) else (some false)) else (some false)) = some r := h
 clear h
 by_cases c2 : a0_0 = 0
 ·rw [if_pos c2] at H
  have c2b0 : (a0_0 == 0) = true := beq_iff_eq.mpr c2
  have c2b1 : (a0_0 != 0) = false := bne_eq_false_iff_eq.mpr c2
  clear c2
  by_cases c3 : a0_1 = 0
  ·rw [if_pos c3] at H
   have c3b0 : (a0_1 == 0) = true := beq_iff_eq.mpr c3
   have c3b1 : (a0_1 != 0) = false := bne_eq_false_iff_eq.mpr c3
   clear c3
   by_cases c4 : a0_2 = 0
   ·rw [if_pos c4] at H
    have c4b0 : (a0_2 == 0) = true := beq_iff_eq.mpr c4
    have c4b1 : (a0_2 != 0) = false := bne_eq_false_iff_eq.mpr c4
    clear c4
    obtain rfl := Option.some.inj H
    go_enter Try.func92, Try.ntmps92
    go_wp2_with (first | ((with_reducible refine gate_dst (N := 1) rfl ?_); (try (refine gate_guard (by rfl) ?_; dsimp only)); refine box_event ?hg (N := 1) ?hd (cs := #[.int .i64 a0_0, .int .i64 a0_1, .int .i64 a0_2, .slice A0_3 l0_3.length c0_3]) (t := 81) ?hr ?_; (case hd => rfl); (case hg => rfl); (case hr => first | (go_simp; done) | (go_simp; rfl)); intro gb1109 hg w5 hbox hb; have n0_ := zA (below_step (by repeat (first | (with_reducible first | exact HB.out | apply zC | apply zB | apply zF) | exact HB.out)) hb); have n1_ := zA (hbox); have n2_ := zA ((by rw [hg]; exact (zL (by repeat (first | (with_reducible first | exact HB.out | apply zC | apply zB | apply zF) | exact HB.out))) : w.heap.size ≤ gb1109)); have n3_ := zA ((by rw [hg]; exact (zL (by repeat (first | (with_reducible first | exact HB.out | apply zC | apply zB | apply zF) | exact HB.out))) : w.heap.size ≤ gb1109)); clear HB; have HB := n0_; have BK1109 := n1_; have GW1109 := n2_; have GE1109 := n3_; clear n0_ n1_ n2_ n3_; clear hb hbox hg; have hcz6_0 : w5.cell? ⟨gb1109, 0, none⟩ = some (.int .i64 a0_0) := (zK BK1109.out 0).trans rfl; have hcz6_1 : w5.cell? ⟨gb1109, 1, none⟩ = some (.int .i64 a0_1) := (zK BK1109.out 1).trans rfl; have hcz6_2 : w5.cell? ⟨gb1109, 2, none⟩ = some (.int .i64 a0_2) := (zK BK1109.out 2).trans rfl; have hcz6_3 : w5.cell? ⟨gb1109, 3, none⟩ = some (.slice A0_3 l0_3.length c0_3) := (zK BK1109.out 3).trans rfl; have hfz6_0 := zJ BK1109.out 0; have hfz6_1 := zJ BK1109.out 1; have hfz6_2 := zJ BK1109.out 2; have hfz6_3 := zJ BK1109.out 3))
    go_ret
    exact ⟨by first | rfl | (simp [errW_none, errW_some] <;> rfl) | (simp [*, errW_none, errW_some] <;> rfl), by repeat (first | (with_reducible first | exact HB.out | apply zC | apply zB | apply zF | refine zE ?_ GE1109.out) | exact HB.out)⟩
   ·rw [if_neg c4] at H
    have c4b0 : (a0_2 == 0) = false := beq_eq_false_iff_ne.mpr c4
    have c4b1 : (a0_2 != 0) = true := bne_iff_ne.mpr c4
    obtain rfl := Option.some.inj H
    go_enter Try.func92, Try.ntmps92
    go_wp2_with (first | ((with_reducible refine gate_dst (N := 1) rfl ?_); (try (refine gate_guard (by rfl) ?_; dsimp only)); refine box_event ?hg (N := 1) ?hd (cs := #[.int .i64 a0_0, .int .i64 a0_1, .int .i64 a0_2, .slice A0_3 l0_3.length c0_3]) (t := 81) ?hr ?_; (case hd => rfl); (case hg => rfl); (case hr => first | (go_simp; done) | (go_simp; rfl)); intro gb1109 hg w7 hbox hb; have n0_ := zA (below_step (by repeat (first | (with_reducible first | exact HB.out | apply zC | apply zB | apply zF) | exact HB.out)) hb); have n1_ := zA (hbox); have n2_ := zA ((by rw [hg]; exact (zL (by repeat (first | (with_reducible first | exact HB.out | apply zC | apply zB | apply zF) | exact HB.out))) : w.heap.size ≤ gb1109)); have n3_ := zA ((by rw [hg]; exact (zL (by repeat (first | (with_reducible first | exact HB.out | apply zC | apply zB | apply zF) | exact HB.out))) : w.heap.size ≤ gb1109)); clear HB; have HB := n0_; have BK1109 := n1_; have GW1109 := n2_; have GE1109 := n3_; clear n0_ n1_ n2_ n3_; clear hb hbox hg; have hcz8_0 : w7.cell? ⟨gb1109, 0, none⟩ = some (.int .i64 a0_0) := (zK BK1109.out 0).trans rfl; have hcz8_1 : w7.cell? ⟨gb1109, 1, none⟩ = some (.int .i64 a0_1) := (zK BK1109.out 1).trans rfl; have hcz8_2 : w7.cell? ⟨gb1109, 2, none⟩ = some (.int .i64 a0_2) := (zK BK1109.out 2).trans rfl; have hcz8_3 : w7.cell? ⟨gb1109, 3, none⟩ = some (.slice A0_3 l0_3.length c0_3) := (zK BK1109.out 3).trans rfl; have hfz8_0 := zJ BK1109.out 0; have hfz8_1 := zJ BK1109.out 1; have hfz8_2 := zJ BK1109.out 2; have hfz8_3 := zJ BK1109.out 3))
    go_ret
    exact ⟨by first | rfl | (simp [errW_none, errW_some] <;> rfl) | (simp [*, errW_none, errW_some] <;> rfl), by repeat (first | (with_reducible first | exact HB.out | apply zC | apply zB | apply zF | refine zE ?_ GE1109.out) | exact HB.out)⟩
  ·rw [if_neg c3] at H
   have c3b0 : (a0_1 == 0) = false := beq_eq_false_iff_ne.mpr c3
   have c3b1 : (a0_1 != 0) = true := bne_iff_ne.mpr c3
   obtain rfl := Option.some.inj H
   go_enter Try.func92, Try.ntmps92
   go_wp2_with (first | ((with_reducible refine gate_dst (N := 1) rfl ?_); (try (refine gate_guard (by rfl) ?_; dsimp only)); refine box_event ?hg (N := 1) ?hd (cs := #[.int .i64 a0_0, .int .i64 a0_1, .int .i64 a0_2, .slice A0_3 l0_3.length c0_3]) (t := 81) ?hr ?_; (case hd => rfl); (case hg => rfl); (case hr => first | (go_simp; done) | (go_simp; rfl)); intro gb1109 hg w9 hbox hb; have n0_ := zA (below_step (by repeat (first | (with_reducible first | exact HB.out | apply zC | apply zB | apply zF) | exact HB.out)) hb); have n1_ := zA (hbox); have n2_ := zA ((by rw [hg]; exact (zL (by repeat (first | (with_reducible first | exact HB.out | apply zC | apply zB | apply zF) | exact HB.out))) : w.heap.size ≤ gb1109)); have n3_ := zA ((by rw [hg]; exact (zL (by repeat (first | (with_reducible first | exact HB.out | apply zC | apply zB | apply zF) | exact HB.out))) : w.heap.size ≤ gb1109)); clear HB; have HB := n0_; have BK1109 := n1_; have GW1109 := n2_; have GE1109 := n3_; clear n0_ n1_ n2_ n3_; clear hb hbox hg; have hcz10_0 : w9.cell? ⟨gb1109, 0, none⟩ = some (.int .i64 a0_0) := (zK BK1109.out 0).trans rfl; have hcz10_1 : w9.cell? ⟨gb1109, 1, none⟩ = some (.int .i64 a0_1) := (zK BK1109.out 1).trans rfl; have hcz10_2 : w9.cell? ⟨gb1109, 2, none⟩ = some (.int .i64 a0_2) := (zK BK1109.out 2).trans rfl; have hcz10_3 : w9.cell? ⟨gb1109, 3, none⟩ = some (.slice A0_3 l0_3.length c0_3) := (zK BK1109.out 3).trans rfl; have hfz10_0 := zJ BK1109.out 0; have hfz10_1 := zJ BK1109.out 1; have hfz10_2 := zJ BK1109.out 2; have hfz10_3 := zJ BK1109.out 3))
   go_ret
   exact ⟨by first | rfl | (simp [errW_none, errW_some] <;> rfl) | (simp [*, errW_none, errW_some] <;> rfl), by repeat (first | (with_reducible first | exact HB.out | apply zC | apply zB | apply zF | refine zE ?_ GE1109.out) | exact HB.out)⟩
 ·rw [if_neg c2] at H
  have c2b0 : (a0_0 == 0) = false := beq_eq_false_iff_ne.mpr c2
  have c2b1 : (a0_0 != 0) = true := bne_iff_ne.mpr c2
  obtain rfl := Option.some.inj H
  go_enter Try.func92, Try.ntmps92
  go_wp2_with (first | ((with_reducible refine gate_dst (N := 1) rfl ?_); (try (refine gate_guard (by rfl) ?_; dsimp only)); refine box_event ?hg (N := 1) ?hd (cs := #[.int .i64 a0_0, .int .i64 a0_1, .int .i64 a0_2, .slice A0_3 l0_3.length c0_3]) (t := 81) ?hr ?_; (case hd => rfl); (case hg => rfl); (case hr => first | (go_simp; done) | (go_simp; rfl)); intro gb1109 hg w11 hbox hb; have n0_ := zA (below_step (by repeat (first | (with_reducible first | exact HB.out | apply zC | apply zB | apply zF) | exact HB.out)) hb); have n1_ := zA (hbox); have n2_ := zA ((by rw [hg]; exact (zL (by repeat (first | (with_reducible first | exact HB.out | apply zC | apply zB | apply zF) | exact HB.out))) : w.heap.size ≤ gb1109)); have n3_ := zA ((by rw [hg]; exact (zL (by repeat (first | (with_reducible first | exact HB.out | apply zC | apply zB | apply zF) | exact HB.out))) : w.heap.size ≤ gb1109)); clear HB; have HB := n0_; have BK1109 := n1_; have GW1109 := n2_; have GE1109 := n3_; clear n0_ n1_ n2_ n3_; clear hb hbox hg; have hcz12_0 : w11.cell? ⟨gb1109, 0, none⟩ = some (.int .i64 a0_0) := (zK BK1109.out 0).trans rfl; have hcz12_1 : w11.cell? ⟨gb1109, 1, none⟩ = some (.int .i64 a0_1) := (zK BK1109.out 1).trans rfl; have hcz12_2 : w11.cell? ⟨gb1109, 2, none⟩ = some (.int .i64 a0_2) := (zK BK1109.out 2).trans rfl; have hcz12_3 : w11.cell? ⟨gb1109, 3, none⟩ = some (.slice A0_3 l0_3.length c0_3) := (zK BK1109.out 3).trans rfl; have hfz12_0 := zJ BK1109.out 0; have hfz12_1 := zJ BK1109.out 1; have hfz12_2 := zJ BK1109.out 2; have hfz12_3 := zJ BK1109.out 3))
  go_ret
  exact ⟨by first | rfl | (simp [errW_none, errW_some] <;> rfl) | (simp [*, errW_none, errW_some] <;> rfl), by repeat (first | (with_reducible first | exact HB.out | apply zC | apply zB | apply zF | refine zE ?_ GE1109.out) | exact HB.out)⟩
end Go.Proofs.Ytilimpjcdeeaiaa.G


namespace Go.Proofs.Ytilimpjcdeeaiaa.G
open Go.RowKit Go.Proofs.YtilimpjcdeeaiaaW.PrintWords Go.Proofs.YtilimpjcdeeaiaaW.PrintLast Go.Proofs.YtilimpjcdeeaiaaW.PrintMore
attribute [local go_sem] max2_int min2_int max_two min_two max_three min_three max_four min_four   -- for this text's walks alone
theorem mul_256 (w h : Int) (h1 : 1 ≤ w) (h2 : w ≤ 256) (h3 : 1 ≤ h) (h4 : h ≤ 256) : 1 ≤ w * h ∧ w * h ≤ 65536 := by
 constructor
 ·have := Int.mul_le_mul h1 h3 (by omega) (by omega); omega
 ·have := Int.mul_le_mul h2 h4 (by omega) (by omega); omega
/-- the greatest sample -/
def topOf (p : Int) : Int := wrap64 ((shl .i64 1 p) - 1)
def headOk (p w h : Int) : Bool := (decide (p = 8) || decide (p = 12)) && ((decide (1 ≤ w) && decide (w ≤ 256)) && (decide (1 ≤ h) && decide (h ≤ 256))) && decide (w * h ≤ 16384)
def rowsIn (a m : Int) (pl : List (List Int)) : Bool := pl.all fun x => decide ((x.length : Int) = a) && allW 0 m x
def picOkM (p w h : Int) (pl : List (List Int)) : Bool := headOk p w h && (decide (1 ≤ pl.length) && decide (pl.length ≤ 4)) && rowsIn (w * h) (topOf p) pl
structure HeadOk (p w h : Int) : Prop where
 p0 : 0 ≤ p
 w1 : 1 ≤ w
 w2 : w ≤ 256
 h1 : 1 ≤ h
 h2 : h ≤ 256
 a1 : 1 ≤ w * h
 a2 : w * h ≤ 16384
theorem headOk_of {p w h : Int} (q : headOk p w h = true) : HeadOk p w h := by
 unfold headOk at q
 simp only [Bool.and_eq_true, Bool.or_eq_true, decide_eq_true_eq] at q
 obtain ⟨⟨q1, ⟨q2, q3⟩, q4, q5⟩, q6⟩ := q
 have hm := mul_256 w h q2 q3 q4 q5
 exact ⟨by omega, q2, q3, q4, q5, hm.1, q6⟩
theorem picOk_of {p w h : Int} {pl : List (List Int)} (q : picOkM p w h pl = true) : HeadOk p w h ∧ 1 ≤ pl.length ∧ pl.length ≤ 4 ∧ ∀ x ∈ pl, (x.length : Int) = w * h := by
 unfold picOkM rowsIn at q
 simp only [Bool.and_eq_true, decide_eq_true_eq, List.all_eq_true] at q
 exact ⟨headOk_of q.1.1, q.1.2.1, q.1.2.2, fun x hx => (q.2 x hx).1⟩
def noPic (p w h : Int) (pl : List (List Int)) : Bool := decide (p = 0) && (decide (w = 0) && (decide (h = 0) && decide (pl.length = 0)))
def noFeed (l : List Int) (n : Int) (o : Bool) (fc fa : Int) : Bool := decide (l.length = 0) && (decide (n = 0) && (!o && (decide (fc = 0) && decide (fa = 0))))
def emptyFrom (k : Int) (pl : List (List Int)) : Bool := pl.all fun x => allW 0 0 (x.drop k.toNat)
theorem row_in {p w h row : Int} (q : HeadOk p w h) (h0 : 0 ≤ row) (h1 : row ≤ h) : 0 ≤ row * w ∧ row * w ≤ w * h := by
 have hw := q.w1
 constructor
 ·exact Int.mul_nonneg h0 (by omega)
 ·rw [Int.mul_comm w h]; exact Int.mul_le_mul_of_nonneg_right h1 (by omega)
end Go.Proofs.Ytilimpjcdeeaiaa.G


namespace Go.Proofs.Ytilimpjcdeeaiaa.G
open Go.RowKit Go.Proofs.YtilimpjcdeeaiaaW.PrintWords Go.Proofs.YtilimpjcdeeaiaaW.PrintLast Go.Proofs.YtilimpjcdeeaiaaW.PrintMore
attribute [local go_sem] max2_int min2_int max_two min_two max_three min_three max_four min_four   -- for this text's walks alone
mutual
def spec_PictureOk.j0 : Nat → Bool → Int → Int → Int → List (List Int) → Option (Bool)
 | 0, _, _, _, _, _ => none
 | k + 1, x39, x1111000, x1111001, x1111002, x1111003 => if x39 = true then (some false) else (spec_PictureOk.l0 k 0 x1111000 x1111001 x1111002 x1111003)
def spec_PictureOk.l0 : Nat → Int → Int → Int → Int → List (List Int) → Option (Bool)
 | 0, _, _, _, _, _ => none
 | k + 1, x3, x1111000, x1111001, x1111002, x1111003 => if x3 < (x1111003.length : Int) then (if 0 ≤ x3 then (if ((rd_L3 x1111003 x3).length : Int) = (wrap64 (x1111001 * x1111002)) then (spec_PictureOk.l1 k x3 0 x1111000 x1111001 x1111002 x1111003) else (some false)) else (none)) else (some true)
def spec_PictureOk.l1 : Nat → Int → Int → Int → Int → Int → List (List Int) → Option (Bool)
 | 0, _, _, _, _, _, _ => none
 | k + 1, x3, x4, x1111000, x1111001, x1111002, x1111003 => if 0 ≤ x3 then (if x3 < (x1111003.length : Int) then (if x4 < ((rd_L3 x1111003 x3).length : Int) then (if 0 ≤ x4 then (if 0 ≤ x1111000 then ((spec_l01Between.f (rd (rd_L3 x1111003 x3) x4) 0 (wrap64 ((shl .i64 1 x1111000) - 1))).bind fun t1121 => (if t1121 = true then (spec_PictureOk.l1 k x3 (wrap64 (x4 + 1)) x1111000 x1111001 x1111002 x1111003) else (some false))) else (none)) else (none)) else (spec_PictureOk.l0 k (wrap64 (x3 + 1)) x1111000 x1111001 x1111002 x1111003)) else (none)) else (none)
end
def spec_PictureOk.f (k : Nat) (a0_0 : Int) (a0_1 : Int) (a0_2 : Int) (l0_3 : List (List Int)) : Option (Bool) := if a0_0 = 8 then ((spec_l01Between.f a0_1 1 256).bind fun t1111 => (if t1111 = true then ((spec_l01Between.f a0_2 1 256).bind fun t1112 => (if t1112 = true then (if (wrap64 (a0_1 * a0_2)) > 16384 then (spec_PictureOk.j0 k true a0_0 a0_1 a0_2 l0_3) else ((spec_l01Between.f (l0_3.length : Int) 1 4).bind fun t1113 => (spec_PictureOk.j0 k (!t1113) a0_0 a0_1 a0_2 l0_3))) else (spec_PictureOk.j0 k true a0_0 a0_1 a0_2 l0_3))) else (spec_PictureOk.j0 k true a0_0 a0_1 a0_2 l0_3))) else (if a0_0 = 12 then ((spec_l01Between.f a0_1 1 256).bind fun t1114 => (if t1114 = true then ((spec_l01Between.f a0_2 1 256).bind fun t1115 => (if t1115 = true then (if (wrap64 (a0_1 * a0_2)) > 16384 then (spec_PictureOk.j0 k true a0_0 a0_1 a0_2 l0_3) else ((spec_l01Between.f (l0_3.length : Int) 1 4).bind fun t1116 => (spec_PictureOk.j0 k (!t1116) a0_0 a0_1 a0_2 l0_3))) else (spec_PictureOk.j0 k true a0_0 a0_1 a0_2 l0_3))) else (spec_PictureOk.j0 k true a0_0 a0_1 a0_2 l0_3))) else (spec_PictureOk.j0 k true a0_0 a0_1 a0_2 l0_3))
theorem spec_PictureOk.mono_l : ∀ k, (∀ y0 y1 y2 y3 y4, LeO (spec_PictureOk.j0 k y0 y1 y2 y3 y4) (spec_PictureOk.j0 (k + 1) y0 y1 y2 y3 y4)) ∧ (∀ y0 y1 y2 y3 y4, LeO (spec_PictureOk.l0 k y0 y1 y2 y3 y4) (spec_PictureOk.l0 (k + 1) y0 y1 y2 y3 y4)) ∧ (∀ y0 y1 y2 y3 y4 y5, LeO (spec_PictureOk.l1 k y0 y1 y2 y3 y4 y5) (spec_PictureOk.l1 (k + 1) y0 y1 y2 y3 y4 y5))
 | 0 => ⟨fun _ _ _ _ _ r h => by simp [spec_PictureOk.j0] at h, fun _ _ _ _ _ r h => by simp [spec_PictureOk.l0] at h, fun _ _ _ _ _ _ r h => by simp [spec_PictureOk.l1] at h⟩
 | k + 1 => by
  obtain ⟨ih0, ih1, ih2⟩ := spec_PictureOk.mono_l k
  refine ⟨?_, ?_, ?_⟩
  ·intro y0 y1 y2 y3 y4
   unfold spec_PictureOk.j0
   repeat' first
   | (with_reducible exact ih0 _ _ _ _ _)
   | (with_reducible exact ih1 _ _ _ _ _)
   | (with_reducible exact ih2 _ _ _ _ _ _)
   | (with_reducible exact LeO.refl _)
   | (with_reducible exact LeO.none _)
   | (with_reducible refine LeO.ite ?_ ?_)
   | (with_reducible refine LeO.bind ?_ (fun _ => ?_))
   | exact ih0 _ _ _ _ _
   | exact ih1 _ _ _ _ _
   | exact ih2 _ _ _ _ _ _
   | exact LeO.none _
   | refine LeO.ite ?_ ?_
   | refine LeO.bind ?_ (fun _ => ?_)
  ·intro y0 y1 y2 y3 y4
   unfold spec_PictureOk.l0
   repeat' first
   | (with_reducible exact ih0 _ _ _ _ _)
   | (with_reducible exact ih1 _ _ _ _ _)
   | (with_reducible exact ih2 _ _ _ _ _ _)
   | (with_reducible exact LeO.refl _)
   | (with_reducible exact LeO.none _)
   | (with_reducible refine LeO.ite ?_ ?_)
   | (with_reducible refine LeO.bind ?_ (fun _ => ?_))
   | exact ih0 _ _ _ _ _
   | exact ih1 _ _ _ _ _
   | exact ih2 _ _ _ _ _ _
   | exact LeO.none _
   | refine LeO.ite ?_ ?_
   | refine LeO.bind ?_ (fun _ => ?_)
  ·intro y0 y1 y2 y3 y4 y5
   unfold spec_PictureOk.l1
   repeat' first
   | (with_reducible exact ih0 _ _ _ _ _)
   | (with_reducible exact ih1 _ _ _ _ _)
   | (with_reducible exact ih2 _ _ _ _ _ _)
   | (with_reducible exact LeO.refl _)
   | (with_reducible exact LeO.none _)
   | (with_reducible refine LeO.ite ?_ ?_)
   | (with_reducible refine LeO.bind ?_ (fun _ => ?_))
   | exact ih0 _ _ _ _ _
   | exact ih1 _ _ _ _ _
   | exact ih2 _ _ _ _ _ _
   | exact LeO.none _
   | refine LeO.ite ?_ ?_
   | refine LeO.bind ?_ (fun _ => ?_)
theorem spec_PictureOk.mono : ∀ a0 a1 a2 a3 k, LeO (spec_PictureOk.f k a0 a1 a2 a3) (spec_PictureOk.f (k + 1) a0 a1 a2 a3) := by
 intro a0 a1 a2 a3 k
 obtain ⟨ih0, ih1, ih2⟩ := spec_PictureOk.mono_l k
 unfold spec_PictureOk.f
 repeat' first
   | (with_reducible exact ih0 _ _ _ _ _)
   | (with_reducible exact ih1 _ _ _ _ _)
   | (with_reducible exact ih2 _ _ _ _ _ _)
   | (with_reducible exact LeO.refl _)
   | (with_reducible exact LeO.none _)
   | (with_reducible refine LeO.ite ?_ ?_)
   | (with_reducible refine LeO.bind ?_ (fun _ => ?_))
   | exact ih0 _ _ _ _ _
   | exact ih1 _ _ _ _ _
   | exact ih2 _ _ _ _ _ _
   | exact LeO.none _
   | refine LeO.ite ?_ ?_
   | refine LeO.bind ?_ (fun _ => ?_)
set_option maxHeartbeats 8000000 in
set_option maxRecDepth 100000 in
theorem spec_PictureOk.calls (k : Nat) (a0_0 : Int) (a0_1 : Int) (a0_2 : Int) (A0_3 : Option Addr) (c0_3 : Nat) (l0_3 : List (List Int)) (r : Bool) (w : World) (hr0_3 : Kd.C (Kd.slice 3 (Kd.int .i64)) w A0_3 l0_3.length l0_3) (hc0_3 : l0_3.length ≤ c0_3) (h : spec_PictureOk.f k a0_0 a0_1 a0_2 l0_3 = some r) :
  Calls Try.prog 93 #[.agg #[.int .i64 a0_0, .int .i64 a0_1, .int .i64 a0_2, .slice A0_3 l0_3.length c0_3]] w fun e w' => e = .returned (.bool r) ∧ Below w.heap.size w w' := by
 have hu81 := Try.underlying81
 have HR0_3 := zA hr0_3
 have HC0_3 := zA hc0_3
 clear hr0_3 hc0_3
 have HB := zA (Below.refl w.heap.size w)
 have H : (if a0_0 = 8 then ((spec_l01Between.f a0_1 1 256).bind fun t1111 => (if t1111 = true then ((spec_l01Between.f a0_2 1 256).bind fun t1112 => (if t1112 = true then (if (wrap64 (a0_1 * a0_2)) > 16384 then (spec_PictureOk.j0 k true a0_0 a0_1 a0_2 l0_3) else ((spec_l01Between.f (l0_3.length : Int) 1 4).bind fun t1113 => (spec_PictureOk.j0 k (!t1113) a0_0 a0_1 a0_2 l0_3))) else (spec_PictureOk.j0 k true a0_0 a0_1 a0_2 l0_3))) else (spec_PictureOk.j0 k true a0_0 a0_1 a0_2 l0_3))) else (if a0_0 = 12 then ((spec_l01Between.f a0_1 1 256).bind fun t1114 => (if t1114 = true then ((spec_l01Between.f a0_2 1 256).bind fun t1115 => (if t1115 = true then (if (wrap64 (a0_1 * a0_2)) > 16384 then (spec_PictureOk.j0 k true a0_0 a0_1 a0_2 l0_3) else ((spec_l01Between.f (l0_3.length : Int) 1 4).bind fun t1116 => (spec_PictureOk.j0 k (!t1116) a0_0 a0_1 a0_2 l0_3))) else (spec_PictureOk.j0 k true a0_0 a0_1 a0_2 l0_3))) else (spec_PictureOk.j0 k true a0_0 a0_1 a0_2 l0_3))) else (spec_PictureOk.j0 k true a0_0 a0_1 a0_2 l0_3))) = some r := h
 clear h
 have HC2 := zA H
 clear H
 go_enter Try.func93, Try.ntmps93
 go_upto_region 1 with (first | ((with_reducible refine gate_dst (N := 1) rfl ?_); (try (refine gate_guard (by rfl) ?_; dsimp only)); refine box_event ?hg (N := 1) ?hd (cs := #[.int .i64 a0_0, .int .i64 a0_1, .int .i64 a0_2, .slice A0_3 l0_3.length c0_3]) (t := 81) ?hr ?_; (case hd => rfl); (case hg => rfl); (case hr => first | (go_simp; done) | (go_simp; rfl)); intro gb1110 hg w3 hbox hb; have n0_ := zA (below_step (by repeat (first | (with_reducible first | exact HB.out | apply zC | apply zB | apply zF) | exact HB.out)) hb); have n1_ := zA (hbox); have n2_ := zA ((by rw [hg]; exact (zL (by repeat (first | (with_reducible first | exact HB.out | apply zC | apply zB | apply zF) | exact HB.out))) : w.heap.size ≤ gb1110)); have n3_ := zA ((by rw [hg]; exact (zL (by repeat (first | (with_reducible first | exact HB.out | apply zC | apply zB | apply zF) | exact HB.out))) : w.heap.size ≤ gb1110)); clear HB; have HB := n0_; have BK1110 := n1_; have GW1110 := n2_; have GE1110 := n3_; clear n0_ n1_ n2_ n3_; clear hb hbox hg))
 (try simp only [Act.put, List.setIfInBounds_toArray, List.set_cons_zero, List.set_cons_succ])
 go_cut [39] (fun v39 wc => ∃ (kq : Nat) (x39_1 : Bool), v39 = .bool x39_1 ∧ Aside0 (spec_PictureOk.j0 kq x39_1 a0_0 a0_1 a0_2 l0_3 = some r) ∧ Aside0 (kq ≤ k) ∧ Aside0 (wc.heap[gb1110]? = some (.cells #[.int .i64 a0_0, .int .i64 a0_1, .int .i64 a0_2, (.slice A0_3 l0_3.length c0_3)] 81 (0, 0))) ∧ Aside0 (Below w.heap.size w wc))
 case first =>
  have H := HC2.out
  clear HC2
  by_cases c4 : a0_0 = 8
  ·rw [if_pos c4] at H
   have c4b0 : (a0_0 == 8) = true := beq_iff_eq.mpr c4
   have c4b1 : (a0_0 != 8) = false := bne_eq_false_iff_eq.mpr c4
   clear c4
   (first | rw [c4b0] | (simp only [i64_w, i32_w]; rw [c4b0]) | skip)
   replace H := Option.bind_eq_some_iff.mp H
   obtain ⟨t1111, A50, H⟩ := H
   replace H : (if t1111 = true then ((spec_l01Between.f a0_2 1 256).bind fun t1112 => (if t1112 = true then (if (wrap64 (a0_1 * a0_2)) > 16384 then (spec_PictureOk.j0 k true a0_0 a0_1 a0_2 l0_3) else ((spec_l01Between.f (l0_3.length : Int) 1 4).bind fun t1113 => (spec_PictureOk.j0 k (!t1113) a0_0 a0_1 a0_2 l0_3))) else (spec_PictureOk.j0 k true a0_0 a0_1 a0_2 l0_3))) else (spec_PictureOk.j0 k true a0_0 a0_1 a0_2 l0_3)) = some r := H
   have A5 := zA A50
   clear A50
   by_cases c6 : t1111 = true
   ·subst c6
    have H1 : ((spec_l01Between.f a0_2 1 256).bind fun t1112 => (if t1112 = true then (if (wrap64 (a0_1 * a0_2)) > 16384 then (spec_PictureOk.j0 k true a0_0 a0_1 a0_2 l0_3) else ((spec_l01Between.f (l0_3.length : Int) 1 4).bind fun t1113 => (spec_PictureOk.j0 k (!t1113) a0_0 a0_1 a0_2 l0_3))) else (spec_PictureOk.j0 k true a0_0 a0_1 a0_2 l0_3))) = some r := by rw [if_pos rfl] at H; exact H
    clear H
    have H := H1
    clear H1
    replace H := Option.bind_eq_some_iff.mp H
    obtain ⟨t1112, A70, H⟩ := H
    replace H : (if t1112 = true then (if (wrap64 (a0_1 * a0_2)) > 16384 then (spec_PictureOk.j0 k true a0_0 a0_1 a0_2 l0_3) else ((spec_l01Between.f (l0_3.length : Int) 1 4).bind fun t1113 => (spec_PictureOk.j0 k (!t1113) a0_0 a0_1 a0_2 l0_3))) else (spec_PictureOk.j0 k true a0_0 a0_1 a0_2 l0_3)) = some r := H
    have A7 := zA A70
    clear A70
    by_cases c8 : t1112 = true
    ·subst c8
     have H1 : (if (wrap64 (a0_1 * a0_2)) > 16384 then (spec_PictureOk.j0 k true a0_0 a0_1 a0_2 l0_3) else ((spec_l01Between.f (l0_3.length : Int) 1 4).bind fun t1113 => (spec_PictureOk.j0 k (!t1113) a0_0 a0_1 a0_2 l0_3))) = some r := by rw [if_pos rfl] at H; exact H
     clear H
     have H := H1
     clear H1
     by_cases c9 : (wrap64 (a0_1 * a0_2)) > 16384
     ·rw [if_pos c9] at H
      have c9b0 : decide (16384 < (wrap64 (a0_1 * a0_2))) = true := zT c9
      clear c9
      have H' := zA H
      clear H
      have hcz10_0 : w3.cell? ⟨gb1110, 0, none⟩ = some (.int .i64 a0_0) := (zK BK1110.out 0).trans rfl
      have hcz10_1 : w3.cell? ⟨gb1110, 1, none⟩ = some (.int .i64 a0_1) := (zK BK1110.out 1).trans rfl
      have hcz10_2 : w3.cell? ⟨gb1110, 2, none⟩ = some (.int .i64 a0_2) := (zK BK1110.out 2).trans rfl
      have hcz10_3 : w3.cell? ⟨gb1110, 3, none⟩ = some (.slice A0_3 l0_3.length c0_3) := (zK BK1110.out 3).trans rfl
      go_wp2_with (first | (go_at_call 58; (with_reducible refine (spec_l01Between.calls a0_1 1 256 true _ A5.out).mono ?_); rintro e w' ⟨rfl, ⟨nd, rfl⟩⟩; (try first | exact ⟨rfl, _, World.drewN_drewN _ _ _⟩ | exact ⟨rfl, _, Eq.trans (World.drewN_drewN _ _ _) (congrArg (World.drewN _) (Nat.add_assoc _ _ _))⟩)) | (go_at_call 58; (with_reducible refine (spec_l01Between.calls a0_2 1 256 true _ A7.out).mono ?_); rintro e w' ⟨rfl, ⟨nd, rfl⟩⟩; (try first | exact ⟨rfl, _, World.drewN_drewN _ _ _⟩ | exact ⟨rfl, _, Eq.trans (World.drewN_drewN _ _ _) (congrArg (World.drewN _) (Nat.add_assoc _ _ _))⟩)))
      go_meet
      case rel => exact ⟨_, (true), (by first | rfl | (simp; done) | (simp [*]; done)), H', ⟨by first | omega | exact Nat.le_refl _⟩, ⟨by (with_reducible repeat (first | refine zG ?_ _ | refine zH ?_ | refine zD ?_ _)); exact BK1110.out⟩, ⟨by repeat (first | (with_reducible first | exact HB.out | apply zC | apply zB | apply zF | refine zE ?_ GE1110.out) | exact HB.out)⟩⟩
     ·rw [if_neg c9] at H
      have c9b0 : decide (16384 < (wrap64 (a0_1 * a0_2))) = false := decide_eq_false c9
      clear c9
      replace H := Option.bind_eq_some_iff.mp H
      obtain ⟨t1113, A110, H⟩ := H
      replace H : (spec_PictureOk.j0 k (!t1113) a0_0 a0_1 a0_2 l0_3) = some r := H
      have A11 := zA A110
      clear A110
      have H' := zA H
      clear H
      have hcz12_0 : w3.cell? ⟨gb1110, 0, none⟩ = some (.int .i64 a0_0) := (zK BK1110.out 0).trans rfl
      have hcz12_1 : w3.cell? ⟨gb1110, 1, none⟩ = some (.int .i64 a0_1) := (zK BK1110.out 1).trans rfl
      have hcz12_2 : w3.cell? ⟨gb1110, 2, none⟩ = some (.int .i64 a0_2) := (zK BK1110.out 2).trans rfl
      have hcz12_3 : w3.cell? ⟨gb1110, 3, none⟩ = some (.slice A0_3 l0_3.length c0_3) := (zK BK1110.out 3).trans rfl
      go_wp2_with (first | (go_at_call 58; (with_reducible refine (spec_l01Between.calls a0_1 1 256 true _ A5.out).mono ?_); rintro e w' ⟨rfl, ⟨nd, rfl⟩⟩; (try first | exact ⟨rfl, _, World.drewN_drewN _ _ _⟩ | exact ⟨rfl, _, Eq.trans (World.drewN_drewN _ _ _) (congrArg (World.drewN _) (Nat.add_assoc _ _ _))⟩)) | (go_at_call 58; (with_reducible refine (spec_l01Between.calls a0_2 1 256 true _ A7.out).mono ?_); rintro e w' ⟨rfl, ⟨nd, rfl⟩⟩; (try first | exact ⟨rfl, _, World.drewN_drewN _ _ _⟩ | exact ⟨rfl, _, Eq.trans (World.drewN_drewN _ _ _) (congrArg (World.drewN _) (Nat.add_assoc _ _ _))⟩)) | (go_at_call 58; (with_reducible refine (spec_l01Between.calls (l0_3.length : Int) 1 4 t1113 _ A11.out).mono ?_); rintro e w' ⟨rfl, ⟨nd, rfl⟩⟩; (try first | exact ⟨rfl, _, World.drewN_drewN _ _ _⟩ | exact ⟨rfl, _, Eq.trans (World.drewN_drewN _ _ _) (congrArg (World.drewN _) (Nat.add_assoc _ _ _))⟩)))
      go_meet
      case rel => exact ⟨_, (!t1113), (by first | rfl | (simp; done) | (simp [*]; done)), H', ⟨by first | omega | exact Nat.le_refl _⟩, ⟨by (with_reducible repeat (first | refine zG ?_ _ | refine zH ?_ | refine zD ?_ _)); exact BK1110.out⟩, ⟨by repeat (first | (with_reducible first | exact HB.out | apply zC | apply zB | apply zF | refine zE ?_ GE1110.out) | exact HB.out)⟩⟩
    ·replace c8 := Bool.eq_false_iff.mpr c8
     subst c8
     have H1 : (spec_PictureOk.j0 k true a0_0 a0_1 a0_2 l0_3) = some r := by rw [if_neg (show ¬ (false = true) by decide)] at H; exact H
     clear H
     have H := H1
     clear H1
     have H' := zA H
     clear H
     have hcz13_0 : w3.cell? ⟨gb1110, 0, none⟩ = some (.int .i64 a0_0) := (zK BK1110.out 0).trans rfl
     have hcz13_1 : w3.cell? ⟨gb1110, 1, none⟩ = some (.int .i64 a0_1) := (zK BK1110.out 1).trans rfl
     have hcz13_2 : w3.cell? ⟨gb1110, 2, none⟩ = some (.int .i64 a0_2) := (zK BK1110.out 2).trans rfl
     have hcz13_3 : w3.cell? ⟨gb1110, 3, none⟩ = some (.slice A0_3 l0_3.length c0_3) := (zK BK1110.out 3).trans rfl
     go_wp2_with (first | (go_at_call 58; (with_reducible refine (spec_l01Between.calls a0_1 1 256 true _ A5.out).mono ?_); rintro e w' ⟨rfl, ⟨nd, rfl⟩⟩; (try first | exact ⟨rfl, _, World.drewN_drewN _ _ _⟩ | exact ⟨rfl, _, Eq.trans (World.drewN_drewN _ _ _) (congrArg (World.drewN _) (Nat.add_assoc _ _ _))⟩)) | (go_at_call 58; (with_reducible refine (spec_l01Between.calls a0_2 1 256 false _ A7.out).mono ?_); rintro e w' ⟨rfl, ⟨nd, rfl⟩⟩; (try first | exact ⟨rfl, _, World.drewN_drewN _ _ _⟩ | exact ⟨rfl, _, Eq.trans (World.drewN_drewN _ _ _) (congrArg (World.drewN _) (Nat.add_assoc _ _ _))⟩)))
     go_meet
     case rel => exact ⟨_, (true), (by first | rfl | (simp; done) | (simp [*]; done)), H', ⟨by first | omega | exact Nat.le_refl _⟩, ⟨by (with_reducible repeat (first | refine zG ?_ _ | refine zH ?_ | refine zD ?_ _)); exact BK1110.out⟩, ⟨by repeat (first | (with_reducible first | exact HB.out | apply zC | apply zB | apply zF | refine zE ?_ GE1110.out) | exact HB.out)⟩⟩
   ·replace c6 := Bool.eq_false_iff.mpr c6
    subst c6
    have H1 : (spec_PictureOk.j0 k true a0_0 a0_1 a0_2 l0_3) = some r := by rw [if_neg (show ¬ (false = true) by decide)] at H; exact H
    clear H
    have H := H1
    clear H1
    have H' := zA H
    clear H
    have hcz14_0 : w3.cell? ⟨gb1110, 0, none⟩ = some (.int .i64 a0_0) := (zK BK1110.out 0).trans rfl
    have hcz14_1 : w3.cell? ⟨gb1110, 1, none⟩ = some (.int .i64 a0_1) := (zK BK1110.out 1).trans rfl
    have hcz14_2 : w3.cell? ⟨gb1110, 2, none⟩ = some (.int .i64 a0_2) := (zK BK1110.out 2).trans rfl
    have hcz14_3 : w3.cell? ⟨gb1110, 3, none⟩ = some (.slice A0_3 l0_3.length c0_3) := (zK BK1110.out 3).trans rfl
    go_wp2_with (first | (go_at_call 58; (with_reducible refine (spec_l01Between.calls a0_1 1 256 false _ A5.out).mono ?_); rintro e w' ⟨rfl, ⟨nd, rfl⟩⟩; (try first | exact ⟨rfl, _, World.drewN_drewN _ _ _⟩ | exact ⟨rfl, _, Eq.trans (World.drewN_drewN _ _ _) (congrArg (World.drewN _) (Nat.add_assoc _ _ _))⟩)))
    go_meet
    case rel => exact ⟨_, (true), (by first | rfl | (simp; done) | (simp [*]; done)), H', ⟨by first | omega | exact Nat.le_refl _⟩, ⟨by (with_reducible repeat (first | refine zG ?_ _ | refine zH ?_ | refine zD ?_ _)); exact BK1110.out⟩, ⟨by repeat (first | (with_reducible first | exact HB.out | apply zC | apply zB | apply zF | refine zE ?_ GE1110.out) | exact HB.out)⟩⟩
  ·rw [if_neg c4] at H
   have c4b0 : (a0_0 == 8) = false := beq_eq_false_iff_ne.mpr c4
   have c4b1 : (a0_0 != 8) = true := bne_iff_ne.mpr c4
   (first | rw [c4b0] | (simp only [i64_w, i32_w]; rw [c4b0]) | skip)
   by_cases c15 : a0_0 = 12
   ·rw [if_pos c15] at H
    have c15b0 : (a0_0 == 12) = true := beq_iff_eq.mpr c15
    have c15b1 : (a0_0 != 12) = false := bne_eq_false_iff_eq.mpr c15
    clear c15
    replace H := Option.bind_eq_some_iff.mp H
    obtain ⟨t1114, A160, H⟩ := H
    replace H : (if t1114 = true then ((spec_l01Between.f a0_2 1 256).bind fun t1115 => (if t1115 = true then (if (wrap64 (a0_1 * a0_2)) > 16384 then (spec_PictureOk.j0 k true a0_0 a0_1 a0_2 l0_3) else ((spec_l01Between.f (l0_3.length : Int) 1 4).bind fun t1116 => (spec_PictureOk.j0 k (!t1116) a0_0 a0_1 a0_2 l0_3))) else (spec_PictureOk.j0 k true a0_0 a0_1 a0_2 l0_3))) else (spec_PictureOk.j0 k true a0_0 a0_1 a0_2 l0_3)) = some r := H
    have A16 := zA A160
    clear A160
    by_cases c17 : t1114 = true
    ·subst c17
     have H1 : ((spec_l01Between.f a0_2 1 256).bind fun t1115 => (if t1115 = true then (if (wrap64 (a0_1 * a0_2)) > 16384 then (spec_PictureOk.j0 k true a0_0 a0_1 a0_2 l0_3) else ((spec_l01Between.f (l0_3.length : Int) 1 4).bind fun t1116 => (spec_PictureOk.j0 k (!t1116) a0_0 a0_1 a0_2 l0_3))) else (spec_PictureOk.j0 k true a0_0 a0_1 a0_2 l0_3))) = some r := by rw [if_pos rfl] at H; exact H
     clear H
     have H := H1
     clear H1
     replace H := Option.bind_eq_some_iff.mp H
     obtain ⟨t1115, A180, H⟩ := H
     replace H : (if t1115 = true then (if (wrap64 (a0_1 * a0_2)) > 16384 then (spec_PictureOk.j0 k true a0_0 a0_1 a0_2 l0_3) else ((spec_l01Between.f (l0_3.length : Int) 1 4).bind fun t1116 => (spec_PictureOk.j0 k (!t1116) a0_0 a0_1 a0_2 l0_3))) else (spec_PictureOk.j0 k true a0_0 a0_1 a0_2 l0_3)) = some r := H
     have A18 := zA A180
     clear A180
     by_cases c19 : t1115 = true
     ·subst c19
      have H1 : (if (wrap64 (a0_1 * a0_2)) > 16384 then (spec_PictureOk.j0 k true a0_0 a0_1 a0_2 l0_3) else ((spec_l01Between.f (l0_3.length : Int) 1 4).bind fun t1116 => (spec_PictureOk.j0 k (!t1116) a0_0 a0_1 a0_2 l0_3))) = some r := by rw [if_pos rfl] at H; exact H
      clear H
      have H := H1
      clear H1
      by_cases c20 : (wrap64 (a0_1 * a0_2)) > 16384
      ·rw [if_pos c20] at H
       have c20b0 : decide (16384 < (wrap64 (a0_1 * a0_2))) = true := zT c20
       clear c20
       have H' := zA H
       clear H
       have hcz21_0 : w3.cell? ⟨gb1110, 0, none⟩ = some (.int .i64 a0_0) := (zK BK1110.out 0).trans rfl
       have hcz21_1 : w3.cell? ⟨gb1110, 1, none⟩ = some (.int .i64 a0_1) := (zK BK1110.out 1).trans rfl
       have hcz21_2 : w3.cell? ⟨gb1110, 2, none⟩ = some (.int .i64 a0_2) := (zK BK1110.out 2).trans rfl
       have hcz21_3 : w3.cell? ⟨gb1110, 3, none⟩ = some (.slice A0_3 l0_3.length c0_3) := (zK BK1110.out 3).trans rfl
       go_wp2_with (first | (go_at_call 58; (with_reducible refine (spec_l01Between.calls a0_1 1 256 true _ A16.out).mono ?_); rintro e w' ⟨rfl, ⟨nd, rfl⟩⟩; (try first | exact ⟨rfl, _, World.drewN_drewN _ _ _⟩ | exact ⟨rfl, _, Eq.trans (World.drewN_drewN _ _ _) (congrArg (World.drewN _) (Nat.add_assoc _ _ _))⟩)) | (go_at_call 58; (with_reducible refine (spec_l01Between.calls a0_2 1 256 true _ A18.out).mono ?_); rintro e w' ⟨rfl, ⟨nd, rfl⟩⟩; (try first | exact ⟨rfl, _, World.drewN_drewN _ _ _⟩ | exact ⟨rfl, _, Eq.trans (World.drewN_drewN _ _ _) (congrArg (World.drewN _) (Nat.add_assoc _ _ _))⟩)))
       go_meet
       case rel => exact ⟨_, (true), (by first | rfl | (simp; done) | (simp [*]; done)), H', ⟨by first | omega | exact Nat.le_refl _⟩, ⟨by (with_reducible repeat (first | refine zG ?_ _ | refine zH ?_ | refine zD ?_ _)); exact BK1110.out⟩, ⟨by repeat (first | (with_reducible first | exact HB.out | apply zC | apply zB | apply zF | refine zE ?_ GE1110.out) | exact HB.out)⟩⟩
      ·rw [if_neg c20] at H
       have c20b0 : decide (16384 < (wrap64 (a0_1 * a0_2))) = false := decide_eq_false c20
       clear c20
       replace H := Option.bind_eq_some_iff.mp H
       obtain ⟨t1116, A220, H⟩ := H
       replace H : (spec_PictureOk.j0 k (!t1116) a0_0 a0_1 a0_2 l0_3) = some r := H
       have A22 := zA A220
       clear A220
       have H' := zA H
       clear H
       have hcz23_0 : w3.cell? ⟨gb1110, 0, none⟩ = some (.int .i64 a0_0) := (zK BK1110.out 0).trans rfl
       have hcz23_1 : w3.cell? ⟨gb1110, 1, none⟩ = some (.int .i64 a0_1) := (zK BK1110.out 1).trans rfl
       have hcz23_2 : w3.cell? ⟨gb1110, 2, none⟩ = some (.int .i64 a0_2) := (zK BK1110.out 2).trans rfl
       have hcz23_3 : w3.cell? ⟨gb1110, 3, none⟩ = some (.slice A0_3 l0_3.length c0_3) := (zK BK1110.out 3).trans rfl
       go_wp2_with (first | (go_at_call 58; (with_reducible refine (spec_l01Between.calls a0_1 1 256 true _ A16.out).mono ?_); rintro e w' ⟨rfl, ⟨nd, rfl⟩⟩; (try first | exact ⟨rfl, _, World.drewN_drewN _ _ _⟩ | exact ⟨rfl, _, Eq.trans (World.drewN_drewN _ _ _) (congrArg (World.drewN _) (Nat.add_assoc _ _ _))⟩)) | (go_at_call 58; (with_reducible refine (spec_l01Between.calls a0_2 1 256 true _ A18.out).mono ?_); rintro e w' ⟨rfl, ⟨nd, rfl⟩⟩; (try first | exact ⟨rfl, _, World.drewN_drewN _ _ _⟩ | exact ⟨rfl, _, Eq.trans (World.drewN_drewN _ _ _) (congrArg (World.drewN _) (Nat.add_assoc _ _ _))⟩)) | (go_at_call 58; (with_reducible refine (spec_l01Between.calls (l0_3.length : Int) 1 4 t1116 _ A22.out).mono ?_); rintro e w' ⟨rfl, ⟨nd, rfl⟩⟩; (try first | exact ⟨rfl, _, World.drewN_drewN _ _ _⟩ | exact ⟨rfl, _, Eq.trans (World.drewN_drewN _ _ _) (congrArg (World.drewN _) (Nat.add_assoc _ _ _))⟩)))
       go_meet
       case rel => exact ⟨_, (!t1116), (by first | rfl | (simp; done) | (simp [*]; done)), H', ⟨by first | omega | exact Nat.le_refl _⟩, ⟨by (with_reducible repeat (first | refine zG ?_ _ | refine zH ?_ | refine zD ?_ _)); exact BK1110.out⟩, ⟨by repeat (first | (with_reducible first | exact HB.out | apply zC | apply zB | apply zF | refine zE ?_ GE1110.out) | exact HB.out)⟩⟩
     ·replace c19 := Bool.eq_false_iff.mpr c19
      subst c19
      have H1 : (spec_PictureOk.j0 k true a0_0 a0_1 a0_2 l0_3) = some r := by rw [if_neg (show ¬ (false = true) by decide)] at H; exact H
      clear H
      have H := H1
      clear H1
      have H' := zA H
      clear H
      have hcz24_0 : w3.cell? ⟨gb1110, 0, none⟩ = some (.int .i64 a0_0) := (zK BK1110.out 0).trans rfl
      have hcz24_1 : w3.cell? ⟨gb1110, 1, none⟩ = some (.int .i64 a0_1) := (zK BK1110.out 1).trans rfl
      have hcz24_2 : w3.cell? ⟨gb1110, 2, none⟩ = some (.int .i64 a0_2) := (zK BK1110.out 2).trans rfl
      have hcz24_3 : w3.cell? ⟨gb1110, 3, none⟩ = some (.slice A0_3 l0_3.length c0_3) := (zK BK1110.out 3).trans rfl
      go_wp2_with (first | (go_at_call 58; (with_reducible refine (spec_l01Between.calls a0_1 1 256 true _ A16.out).mono ?_); rintro e w' ⟨rfl, ⟨nd, rfl⟩⟩; (try first | exact ⟨rfl, _, World.drewN_drewN _ _ _⟩ | exact ⟨rfl, _, Eq.trans (World.drewN_drewN _ _ _) (congrArg (World.drewN _) (Nat.add_assoc _ _ _))⟩)) | (go_at_call 58; (with_reducible refine (spec_l01Between.calls a0_2 1 256 false _ A18.out).mono ?_); rintro e w' ⟨rfl, ⟨nd, rfl⟩⟩; (try first | exact ⟨rfl, _, World.drewN_drewN _ _ _⟩ | exact ⟨rfl, _, Eq.trans (World.drewN_drewN _ _ _) (congrArg (World.drewN _) (Nat.add_assoc _ _ _))⟩)))
      go_meet
      case rel => exact ⟨_, (true), (by first | rfl | (simp; done) | (simp [*]; done)), H', ⟨by first | omega | exact Nat.le_refl _⟩, ⟨by (with_reducible repeat (first | refine zG ?_ _ | refine zH ?_ | refine zD ?_ _)); exact BK1110.out⟩, ⟨by repeat (first | (with_reducible first | exact HB.out | apply zC | apply zB | apply zF | refine zE ?_ GE1110.out) | exact HB.out)⟩⟩
    ·replace c17 := Bool.eq_false_iff.mpr c17
     subst c17
     have H1 : (spec_PictureOk.j0 k true a0_0 a0_1 a0_2 l0_3) = some r := by rw [if_neg (show ¬ (false = true) by decide)] at H; exact H
     clear H
     have H := H1
     clear H1
     have H' := zA H
     clear H
     have hcz25_0 : w3.cell? ⟨gb1110, 0, none⟩ = some (.int .i64 a0_0) := (zK BK1110.out 0).trans rfl
     have hcz25_1 : w3.cell? ⟨gb1110, 1, none⟩ = some (.int .i64 a0_1) := (zK BK1110.out 1).trans rfl
     have hcz25_2 : w3.cell? ⟨gb1110, 2, none⟩ = some (.int .i64 a0_2) := (zK BK1110.out 2).trans rfl
     have hcz25_3 : w3.cell? ⟨gb1110, 3, none⟩ = some (.slice A0_3 l0_3.length c0_3) := (zK BK1110.out 3).trans rfl
     go_wp2_with (first | (go_at_call 58; (with_reducible refine (spec_l01Between.calls a0_1 1 256 false _ A16.out).mono ?_); rintro e w' ⟨rfl, ⟨nd, rfl⟩⟩; (try first | exact ⟨rfl, _, World.drewN_drewN _ _ _⟩ | exact ⟨rfl, _, Eq.trans (World.drewN_drewN _ _ _) (congrArg (World.drewN _) (Nat.add_assoc _ _ _))⟩)))
     go_meet
     case rel => exact ⟨_, (true), (by first | rfl | (simp; done) | (simp [*]; done)), H', ⟨by first | omega | exact Nat.le_refl _⟩, ⟨by (with_reducible repeat (first | refine zG ?_ _ | refine zH ?_ | refine zD ?_ _)); exact BK1110.out⟩, ⟨by repeat (first | (with_reducible first | exact HB.out | apply zC | apply zB | apply zF | refine zE ?_ GE1110.out) | exact HB.out)⟩⟩
   ·rw [if_neg c15] at H
    have c15b0 : (a0_0 == 12) = false := beq_eq_false_iff_ne.mpr c15
    have c15b1 : (a0_0 != 12) = true := bne_iff_ne.mpr c15
    have H' := zA H
    clear H
    have hcz26_0 : w3.cell? ⟨gb1110, 0, none⟩ = some (.int .i64 a0_0) := (zK BK1110.out 0).trans rfl
    have hcz26_1 : w3.cell? ⟨gb1110, 1, none⟩ = some (.int .i64 a0_1) := (zK BK1110.out 1).trans rfl
    have hcz26_2 : w3.cell? ⟨gb1110, 2, none⟩ = some (.int .i64 a0_2) := (zK BK1110.out 2).trans rfl
    have hcz26_3 : w3.cell? ⟨gb1110, 3, none⟩ = some (.slice A0_3 l0_3.length c0_3) := (zK BK1110.out 3).trans rfl
    go_wp2
    repeat (go_quiet (fail); try go_wp2)
    go_meet
    case rel => exact ⟨_, (true), (by first | rfl | (simp; done) | (simp [*]; done)), H', ⟨by first | omega | exact Nat.le_refl _⟩, ⟨by (with_reducible repeat (first | refine zG ?_ _ | refine zH ?_ | refine zD ?_ _)); exact BK1110.out⟩, ⟨by repeat (first | (with_reducible first | exact HB.out | apply zC | apply zB | apply zF | refine zE ?_ GE1110.out) | exact HB.out)⟩⟩
 case rest =>
  clear HC2
  obtain ⟨kq, x39_1, rfl, HA, HJ1, BK1110, HB⟩ := hcut
  cases kq with
  | zero => exact absurd HA.out (by simp [spec_PictureOk.j0])
  | succ kj1 =>
   have H := HA.out
   clear HA
   simp only [spec_PictureOk.j0] at H
   by_cases c27 : x39_1 = true
   ·subst c27
    have H1 : (some false) = some r := by rw [if_pos rfl] at H; exact H
    clear H
    have H := H1
    clear H1
    obtain rfl := Option.some.inj H
    go_wp2
    repeat (go_quiet (fail); try go_wp2)
    go_ret
    exact ⟨by first | rfl | (simp [errW_none, errW_some] <;> rfl) | (simp [*, errW_none, errW_some] <;> rfl), by repeat (first | (with_reducible first | exact HB.out | apply zC | apply zB | apply zF | refine zE ?_ GE1110.out) | exact HB.out)⟩
   ·replace c27 := Bool.eq_false_iff.mpr c27
    subst c27
    have H1 : (spec_PictureOk.l0 kj1 0 a0_0 a0_1 a0_2 l0_3) = some r := by rw [if_neg (show ¬ (false = true) by decide)] at H; exact H
    clear H
    have H := H1
    clear H1
    have H' := zA H
    clear H
    go_wp2
    repeat (go_quiet (fail); try go_wp2)
    go_loopg [3] kj1 (fun kq v3 w' => ∃ (x3_2 : Int), v3 = .int .i64 x3_2 ∧ Aside0 (spec_PictureOk.l0 kq x3_2 a0_0 a0_1 a0_2 l0_3 = some r) ∧ Aside0 (kq ≤ kj1) ∧ Aside0 (w'.heap[gb1110]? = some (.cells #[.int .i64 a0_0, .int .i64 a0_1, .int .i64 a0_2, (.slice A0_3 l0_3.length c0_3)] 81 (0, 0))) ∧ Aside0 (Below w.heap.size w w'))
    case atStart => exact ⟨(0), (by first | rfl | (simp; done) | (simp [*]; done)), H', ⟨Nat.le_refl _⟩, ⟨by (with_reducible repeat (first | refine zG ?_ _ | refine zH ?_ | refine zD ?_ _)); exact BK1110.out⟩, ⟨by repeat (first | (with_reducible first | exact HB.out | apply zC | apply zB | apply zF | refine zE ?_ GE1110.out) | exact HB.out)⟩⟩
    case round =>
     clear H'
     obtain ⟨x3_2, rfl, HA, HK2, BK1110, HB⟩ := hrel
     cases gk with
     | zero => exact absurd HA.out (by simp [spec_PictureOk.l0])
     | succ k2 =>
      have H := HA.out
      clear HA
      simp only [spec_PictureOk.l0] at H
      by_cases c28 : x3_2 < (l0_3.length : Int)
      ·rw [if_pos c28] at H
       have c28b0 : decide (x3_2 < (l0_3.length : Int)) = true := zT c28
       clear c28
       by_cases c29 : 0 ≤ x3_2
       ·rw [if_pos c29] at H
        have c29b0 : decide (0 ≤ x3_2) = true := zT c29
        clear c29
        by_cases c30 : ((rd_L3 l0_3 x3_2).length : Int) = (wrap64 (a0_1 * a0_2))
        ·rw [if_pos c30] at H
         have c30b0 : (((rd_L3 l0_3 x3_2).length : Int) == (wrap64 (a0_1 * a0_2))) = true := beq_iff_eq.mpr c30
         have c30b1 : (((rd_L3 l0_3 x3_2).length : Int) != (wrap64 (a0_1 * a0_2))) = false := bne_eq_false_iff_eq.mpr c30
         clear c30
         have H' := zA H
         clear H
         have hcz31_0 : wr.cell? ⟨gb1110, 0, none⟩ = some (.int .i64 a0_0) := (zK BK1110.out 0).trans rfl
         have hcz31_1 : wr.cell? ⟨gb1110, 1, none⟩ = some (.int .i64 a0_1) := (zK BK1110.out 1).trans rfl
         have hcz31_2 : wr.cell? ⟨gb1110, 2, none⟩ = some (.int .i64 a0_2) := (zK BK1110.out 2).trans rfl
         have hcz31_3 : wr.cell? ⟨gb1110, 3, none⟩ = some (.slice A0_3 l0_3.length c0_3) := (zK BK1110.out 3).trans rfl
         have p1117 : 0 ≤ (x3_2 : Int) := zI (by first | (with_reducible assumption) | assumption)
         have q1117 : x3_2 < (l0_3.length : Int) := zI (by first | (with_reducible assumption) | assumption)
         obtain ⟨ad1117, A1117_0, c1117_0, e1117, hx1117_0, hl1117_0, hi1117_0⟩ := at_L3 HR0_3.out x3_2 p1117 q1117
         cases e1117
         replace hx1117_0 := (HB.out.cell (World.block_lt_of_cell? w _ hx1117_0)).trans hx1117_0
         have HR1117_0 := zA hi1117_0
         have HC1117_0 := zA hl1117_0
         clear hi1117_0 hl1117_0
         replace p1117 := eq_true p1117
         replace q1117 := eq_true q1117
         go_wp2
         repeat (go_quiet (fail); try go_wp2)
         go_loopg [4] k2 (fun kq v4 w' => ∃ (x4_3 : Int), v4 = .int .i64 x4_3 ∧ Aside0 (spec_PictureOk.l1 kq x3_2 x4_3 a0_0 a0_1 a0_2 l0_3 = some r) ∧ Aside0 (kq ≤ k2) ∧ Aside0 (w'.heap[gb1110]? = some (.cells #[.int .i64 a0_0, .int .i64 a0_1, .int .i64 a0_2, (.slice (some ad1117) l0_3.length c0_3)] 81 (0, 0))) ∧ Aside0 (Below w.heap.size w w'))
         case atStart => exact ⟨(0), (by first | rfl | (simp; done) | (simp [*]; done)), H', ⟨Nat.le_refl _⟩, ⟨by (with_reducible repeat (first | refine zG ?_ _ | refine zH ?_ | refine zD ?_ _)); exact BK1110.out⟩, ⟨by repeat (first | (with_reducible first | exact HB.out | apply zC | apply zB | apply zF | refine zE ?_ GE1110.out) | exact HB.out)⟩⟩
         case round =>
          clear H'
          try clear c28b0
          try clear c29b0
          try clear c30b0
          try clear c30b1
          try clear hcz31_0
          try clear hcz31_1
          try clear hcz31_2
          try clear hcz31_3
          try clear hfz31_0
          try clear hfz31_1
          try clear hfz31_2
          try clear hfz31_3
          try clear hx1117_0
          try clear p1117
          try clear q1117
          obtain ⟨x4_3, rfl, HA, HK3, BK1110, HB⟩ := hrel
          cases gk with
          | zero => exact absurd HA.out (by simp [spec_PictureOk.l1])
          | succ k3 =>
           have H := HA.out
           clear HA
           simp only [spec_PictureOk.l1] at H
           by_cases c32 : 0 ≤ x3_2
           ·rw [if_pos c32] at H
            have c32b0 : decide (0 ≤ x3_2) = true := zT c32
            clear c32
            by_cases c33 : x3_2 < (l0_3.length : Int)
            ·rw [if_pos c33] at H
             have c33b0 : decide (x3_2 < (l0_3.length : Int)) = true := zT c33
             clear c33
             by_cases c34 : x4_3 < ((rd_L3 l0_3 x3_2).length : Int)
             ·rw [if_pos c34] at H
              have c34b0 : decide (x4_3 < ((rd_L3 l0_3 x3_2).length : Int)) = true := zT c34
              clear c34
              by_cases c35 : 0 ≤ x4_3
              ·rw [if_pos c35] at H
               have c35b0 : decide (0 ≤ x4_3) = true := zT c35
               clear c35
               by_cases c36 : 0 ≤ a0_0
               ·rw [if_pos c36] at H
                have c36b0 := eq_true c36
                have c36b1 : decide (0 ≤ a0_0) = true := zT c36
                clear c36
                obtain ⟨ji37, hji37⟩ : ∃ j_ : Int, (shl .i64 1 a0_0) = j_ := ⟨_, rfl⟩
                replace H : ((spec_l01Between.f (rd (rd_L3 l0_3 x3_2) x4_3) 0 (wrap64 ((ji37) - 1))).bind fun t1121 => (if t1121 = true then (spec_PictureOk.l1 k3 x3_2 (wrap64 (x4_3 + 1)) a0_0 a0_1 a0_2 l0_3) else (some false))) = some r := by first | (rw [hji37] at H; exact H) | (simp only [hji37] at H ⊢; exact H)
                have hji37_ : (IntKind.i64.wrap (1 * 2 ^ min a0_0.toNat 64)) = ji37 := hji37
                have hji37z : a0_0 ≤ 64 → (IntKind.i64.wrap (1 * 2 ^ a0_0.toNat)) = ji37 := shl_small hji37
                have hji37u : (IntKind.i64.wrap (2 ^ min a0_0.toNat 64)) = ji37 := by have h_ := hji37_; rw [Int.one_mul] at h_; exact h_
                have hji37v : a0_0 ≤ 64 → (IntKind.i64.wrap (2 ^ a0_0.toNat)) = ji37 := fun hle_ => by have h_ := hji37z hle_; rw [Int.one_mul] at h_; exact h_
                have hji37y : (wrap64 (1 * 2 ^ min a0_0.toNat 64)) = ji37 := (i64_w _).symm.trans hji37_
                have hji37x : a0_0 ≤ 64 → (wrap64 (1 * 2 ^ a0_0.toNat)) = ji37 := fun h_ => (i64_w _).symm.trans (hji37z h_)
                replace H := Option.bind_eq_some_iff.mp H
                obtain ⟨t1121, A380, H⟩ := H
                replace H : (if t1121 = true then (spec_PictureOk.l1 k3 x3_2 (wrap64 (x4_3 + 1)) a0_0 a0_1 a0_2 l0_3) else (some false)) = some r := H
                have A38 := zA A380
                clear A380
                by_cases c39 : t1121 = true
                ·subst c39
                 have H1 : (spec_PictureOk.l1 k3 x3_2 (wrap64 (x4_3 + 1)) a0_0 a0_1 a0_2 l0_3) = some r := by rw [if_pos rfl] at H; exact H
                 clear H
                 have H := H1
                 clear H1
                 have H' := zA H
                 clear H
                 have hcz40_0 : wr.cell? ⟨gb1110, 0, none⟩ = some (.int .i64 a0_0) := (zK BK1110.out 0).trans rfl
                 have hcz40_1 : wr.cell? ⟨gb1110, 1, none⟩ = some (.int .i64 a0_1) := (zK BK1110.out 1).trans rfl
                 have hcz40_2 : wr.cell? ⟨gb1110, 2, none⟩ = some (.int .i64 a0_2) := (zK BK1110.out 2).trans rfl
                 have hcz40_3 : wr.cell? ⟨gb1110, 3, none⟩ = some (.slice (some ad1117) l0_3.length c0_3) := (zK BK1110.out 3).trans rfl
                 have p1118 : 0 ≤ (x3_2 : Int) := zI (by first | (with_reducible assumption) | assumption)
                 have q1118 : x3_2 < (l0_3.length : Int) := zI (by first | (with_reducible assumption) | assumption)
                 obtain ⟨ad1118, A1118_0, c1118_0, e1118, hx1118_0, hl1118_0, hi1118_0⟩ := at_L3 HR0_3.out x3_2 p1118 q1118
                 obtain rfl : ad1117 = ad1118 := (by injection e1118)
                 replace hx1118_0 := (HB.out.cell (World.block_lt_of_cell? w _ hx1118_0)).trans hx1118_0
                 have HR1118_0 := zA hi1118_0
                 have HC1118_0 := zA hl1118_0
                 clear hi1118_0 hl1118_0
                 replace p1118 := eq_true p1118
                 replace q1118 := eq_true q1118
                 have p1119 : 0 ≤ (x3_2 : Int) := zI (by first | (with_reducible assumption) | assumption)
                 have q1119 : x3_2 < (l0_3.length : Int) := zI (by first | (with_reducible assumption) | assumption)
                 obtain ⟨ad1119, A1119_0, c1119_0, e1119, hx1119_0, hl1119_0, hi1119_0⟩ := at_L3 HR0_3.out x3_2 p1119 q1119
                 obtain rfl : ad1117 = ad1119 := (by injection e1119)
                 replace hx1119_0 := (HB.out.cell (World.block_lt_of_cell? w _ hx1119_0)).trans hx1119_0
                 have HR1119_0 := zA hi1119_0
                 have HC1119_0 := zA hl1119_0
                 clear hi1119_0 hl1119_0
                 replace p1119 := eq_true p1119
                 replace q1119 := eq_true q1119
                 have ea_ := Option.some.inj (hx1118_0.symm.trans hx1119_0)
                 injection ea_ with ea_ en_ ec_
                 subst ea_
                 subst ec_
                 clear en_
                 have p1120 : 0 ≤ (x4_3 : Int) := zI (by first | (with_reducible assumption) | assumption)
                 have q1120 : x4_3 < ((rd_L3 l0_3 x3_2).length : Int) := zI (by first | (with_reducible assumption) | assumption)
                 obtain ⟨ad1120, e1120, hx1120_0⟩ := Kd.at_int HR1119_0.out x4_3 p1120 q1120
                 cases e1120
                 replace hx1120_0 := (HB.out.cell (World.block_lt_of_cell? w _ hx1120_0)).trans hx1120_0
                 replace p1120 := eq_true p1120
                 replace q1120 := eq_true q1120
                 go_wp2_with (fail)
                 repeat (go_quiet (first | (go_at_call 58; (with_reducible refine (spec_l01Between.calls (rd (rd_L3 l0_3 x3_2) x4_3) 0 (wrap64 ((ji37) - 1)) true _ A38.out).mono ?_); rintro e w' ⟨rfl, ⟨nd, rfl⟩⟩; (try first | exact ⟨rfl, _, World.drewN_drewN _ _ _⟩ | exact ⟨rfl, _, Eq.trans (World.drewN_drewN _ _ _) (congrArg (World.drewN _) (Nat.add_assoc _ _ _))⟩))); try go_wp2_with (fail))
                 go_roundg k3
                 case measure => have := HJ1.out; have := HK2.out; have := HK3.out; omega
                 case rel => exact ⟨(wrap64 (x4_3 + 1)), (by first | rfl | (simp; done) | (simp [*]; done)), H', ⟨by have := HJ1.out; have := HK2.out; have := HK3.out; omega⟩, ⟨by (with_reducible repeat (first | refine zG ?_ _ | refine zH ?_ | refine zD ?_ _)); exact BK1110.out⟩, ⟨by repeat (first | (with_reducible first | exact HB.out | apply zC | apply zB | apply zF | refine zE ?_ GE1110.out) | exact HB.out)⟩⟩
                ·replace c39 := Bool.eq_false_iff.mpr c39
                 subst c39
                 have H1 : (some false) = some r := by rw [if_neg (show ¬ (false = true) by decide)] at H; exact H
                 clear H
                 have H := H1
                 clear H1
                 obtain rfl := Option.some.inj H
                 have hcz41_0 : wr.cell? ⟨gb1110, 0, none⟩ = some (.int .i64 a0_0) := (zK BK1110.out 0).trans rfl
                 have hcz41_1 : wr.cell? ⟨gb1110, 1, none⟩ = some (.int .i64 a0_1) := (zK BK1110.out 1).trans rfl
                 have hcz41_2 : wr.cell? ⟨gb1110, 2, none⟩ = some (.int .i64 a0_2) := (zK BK1110.out 2).trans rfl
                 have hcz41_3 : wr.cell? ⟨gb1110, 3, none⟩ = some (.slice (some ad1117) l0_3.length c0_3) := (zK BK1110.out 3).trans rfl
                 have p1118 : 0 ≤ (x3_2 : Int) := zI (by first | (with_reducible assumption) | assumption)
                 have q1118 : x3_2 < (l0_3.length : Int) := zI (by first | (with_reducible assumption) | assumption)
                 obtain ⟨ad1118, A1118_0, c1118_0, e1118, hx1118_0, hl1118_0, hi1118_0⟩ := at_L3 HR0_3.out x3_2 p1118 q1118
                 obtain rfl : ad1117 = ad1118 := (by injection e1118)
                 replace hx1118_0 := (HB.out.cell (World.block_lt_of_cell? w _ hx1118_0)).trans hx1118_0
                 have HR1118_0 := zA hi1118_0
                 have HC1118_0 := zA hl1118_0
                 clear hi1118_0 hl1118_0
                 replace p1118 := eq_true p1118
                 replace q1118 := eq_true q1118
                 have p1119 : 0 ≤ (x3_2 : Int) := zI (by first | (with_reducible assumption) | assumption)
                 have q1119 : x3_2 < (l0_3.length : Int) := zI (by first | (with_reducible assumption) | assumption)
                 obtain ⟨ad1119, A1119_0, c1119_0, e1119, hx1119_0, hl1119_0, hi1119_0⟩ := at_L3 HR0_3.out x3_2 p1119 q1119
                 obtain rfl : ad1117 = ad1119 := (by injection e1119)
                 replace hx1119_0 := (HB.out.cell (World.block_lt_of_cell? w _ hx1119_0)).trans hx1119_0
                 have HR1119_0 := zA hi1119_0
                 have HC1119_0 := zA hl1119_0
                 clear hi1119_0 hl1119_0
                 replace p1119 := eq_true p1119
                 replace q1119 := eq_true q1119
                 have ea_ := Option.some.inj (hx1118_0.symm.trans hx1119_0)
                 injection ea_ with ea_ en_ ec_
                 subst ea_
                 subst ec_
                 clear en_
                 have p1120 : 0 ≤ (x4_3 : Int) := zI (by first | (with_reducible assumption) | assumption)
                 have q1120 : x4_3 < ((rd_L3 l0_3 x3_2).length : Int) := zI (by first | (with_reducible assumption) | assumption)
                 obtain ⟨ad1120, e1120, hx1120_0⟩ := Kd.at_int HR1119_0.out x4_3 p1120 q1120
                 cases e1120
                 replace hx1120_0 := (HB.out.cell (World.block_lt_of_cell? w _ hx1120_0)).trans hx1120_0
                 replace p1120 := eq_true p1120
                 replace q1120 := eq_true q1120
                 go_wp2_with (fail)
                 repeat (go_quiet (first | (go_at_call 58; (with_reducible refine (spec_l01Between.calls (rd (rd_L3 l0_3 x3_2) x4_3) 0 (wrap64 ((ji37) - 1)) false _ A38.out).mono ?_); rintro e w' ⟨rfl, ⟨nd, rfl⟩⟩; (try first | exact ⟨rfl, _, World.drewN_drewN _ _ _⟩ | exact ⟨rfl, _, Eq.trans (World.drewN_drewN _ _ _) (congrArg (World.drewN _) (Nat.add_assoc _ _ _))⟩))); try go_wp2_with (fail))
                 go_ret
                 exact ⟨by first | rfl | (simp [errW_none, errW_some] <;> rfl) | (simp only [← hji37]; first | rfl | (simp [errW_none, errW_some] <;> rfl)) | (simp [*, errW_none, errW_some] <;> rfl), by repeat (first | (with_reducible first | exact HB.out | apply zC | apply zB | apply zF | refine zE ?_ GE1110.out) | exact HB.out)⟩
               ·rw [if_neg c36] at H
                exact absurd H (by simp)
              ·rw [if_neg c35] at H
               exact absurd H (by simp)
             ·rw [if_neg c34] at H
              have c34b0 : decide (x4_3 < ((rd_L3 l0_3 x3_2).length : Int)) = false := decide_eq_false c34
              clear c34
              have H' := zA H
              clear H
              have hcz42_0 : wr.cell? ⟨gb1110, 0, none⟩ = some (.int .i64 a0_0) := (zK BK1110.out 0).trans rfl
              have hcz42_1 : wr.cell? ⟨gb1110, 1, none⟩ = some (.int .i64 a0_1) := (zK BK1110.out 1).trans rfl
              have hcz42_2 : wr.cell? ⟨gb1110, 2, none⟩ = some (.int .i64 a0_2) := (zK BK1110.out 2).trans rfl
              have hcz42_3 : wr.cell? ⟨gb1110, 3, none⟩ = some (.slice (some ad1117) l0_3.length c0_3) := (zK BK1110.out 3).trans rfl
              have p1118 : 0 ≤ (x3_2 : Int) := zI (by first | (with_reducible assumption) | assumption)
              have q1118 : x3_2 < (l0_3.length : Int) := zI (by first | (with_reducible assumption) | assumption)
              obtain ⟨ad1118, A1118_0, c1118_0, e1118, hx1118_0, hl1118_0, hi1118_0⟩ := at_L3 HR0_3.out x3_2 p1118 q1118
              obtain rfl : ad1117 = ad1118 := (by injection e1118)
              replace hx1118_0 := (HB.out.cell (World.block_lt_of_cell? w _ hx1118_0)).trans hx1118_0
              have HR1118_0 := zA hi1118_0
              have HC1118_0 := zA hl1118_0
              clear hi1118_0 hl1118_0
              replace p1118 := eq_true p1118
              replace q1118 := eq_true q1118
              go_wp2
              repeat (go_quiet (fail); try go_wp2)
              go_roundg k3
              case measure => have := HJ1.out; have := HK2.out; have := HK3.out; omega
              case rel => exact ⟨(wrap64 (x3_2 + 1)), (by first | rfl | (simp; done) | (simp [*]; done)), H', ⟨by have := HJ1.out; have := HK2.out; have := HK3.out; omega⟩, ⟨by (with_reducible repeat (first | refine zG ?_ _ | refine zH ?_ | refine zD ?_ _)); exact BK1110.out⟩, ⟨by repeat (first | (with_reducible first | exact HB.out | apply zC | apply zB | apply zF | refine zE ?_ GE1110.out) | exact HB.out)⟩⟩
            ·rw [if_neg c33] at H
             exact absurd H (by simp)
           ·rw [if_neg c32] at H
            exact absurd H (by simp)
        ·rw [if_neg c30] at H
         have c30b0 : (((rd_L3 l0_3 x3_2).length : Int) == (wrap64 (a0_1 * a0_2))) = false := beq_eq_false_iff_ne.mpr c30
         have c30b1 : (((rd_L3 l0_3 x3_2).length : Int) != (wrap64 (a0_1 * a0_2))) = true := bne_iff_ne.mpr c30
         obtain rfl := Option.some.inj H
         have hcz43_0 : wr.cell? ⟨gb1110, 0, none⟩ = some (.int .i64 a0_0) := (zK BK1110.out 0).trans rfl
         have hcz43_1 : wr.cell? ⟨gb1110, 1, none⟩ = some (.int .i64 a0_1) := (zK BK1110.out 1).trans rfl
         have hcz43_2 : wr.cell? ⟨gb1110, 2, none⟩ = some (.int .i64 a0_2) := (zK BK1110.out 2).trans rfl
         have hcz43_3 : wr.cell? ⟨gb1110, 3, none⟩ = some (.slice A0_3 l0_3.length c0_3) := (zK BK1110.out 3).trans rfl
         have p1117 : 0 ≤ (x3_2 : Int) := zI (by first | (with_reducible assumption) | assumption)
         have q1117 : x3_2 < (l0_3.length : Int) := zI (by first | (with_reducible assumption) | assumption)
         obtain ⟨ad1117, A1117_0, c1117_0, e1117, hx1117_0, hl1117_0, hi1117_0⟩ := at_L3 HR0_3.out x3_2 p1117 q1117
         cases e1117
         replace hx1117_0 := (HB.out.cell (World.block_lt_of_cell? w _ hx1117_0)).trans hx1117_0
         have HR1117_0 := zA hi1117_0
         have HC1117_0 := zA hl1117_0
         clear hi1117_0 hl1117_0
         replace p1117 := eq_true p1117
         replace q1117 := eq_true q1117
         go_wp2
         repeat (go_quiet (fail); try go_wp2)
         go_ret
         exact ⟨by first | rfl | (simp [errW_none, errW_some] <;> rfl) | (simp [*, errW_none, errW_some] <;> rfl), by repeat (first | (with_reducible first | exact HB.out | apply zC | apply zB | apply zF | refine zE ?_ GE1110.out) | exact HB.out)⟩
       ·rw [if_neg c29] at H
        exact absurd H (by simp)
      ·rw [if_neg c28] at H
       have c28b0 : decide (x3_2 < (l0_3.length : Int)) = false := decide_eq_false c28
       clear c28
       obtain rfl := Option.some.inj H
       have hcz44_0 : wr.cell? ⟨gb1110, 0, none⟩ = some (.int .i64 a0_0) := (zK BK1110.out 0).trans rfl
       have hcz44_1 : wr.cell? ⟨gb1110, 1, none⟩ = some (.int .i64 a0_1) := (zK BK1110.out 1).trans rfl
       have hcz44_2 : wr.cell? ⟨gb1110, 2, none⟩ = some (.int .i64 a0_2) := (zK BK1110.out 2).trans rfl
       have hcz44_3 : wr.cell? ⟨gb1110, 3, none⟩ = some (.slice A0_3 l0_3.length c0_3) := (zK BK1110.out 3).trans rfl
       go_wp2
       repeat (go_quiet (fail); try go_wp2)
       go_ret
       exact ⟨by first | rfl | (simp [errW_none, errW_some] <;> rfl) | (simp [*, errW_none, errW_some] <;> rfl), by repeat (first | (with_reducible first | exact HB.out | apply zC | apply zB | apply zF | refine zE ?_ GE1110.out) | exact HB.out)⟩
theorem spec_PictureOk.l1_ev (p w h : Int) (hp : 0 ≤ p) (pl : List (List Int)) (i : Nat) (hi : i < pl.length) (hn : pl.length ≤ 4) (hl : pl[i].length ≤ 16384) (r : Bool) (hr : Ev (fun k => spec_PictureOk.l0 k ((i + 1 : Nat) : Int) p w h pl) r) :
  ∀ d j : Nat, j + d = pl[i].length → Ev (fun k => spec_PictureOk.l1 k (i : Int) (j : Int) p w h pl) (allW 0 (topOf p) (pl[i].drop j) && r) := by
 intro d
 have e : rd_L3 pl (i : Int) = pl[i] := rdL_nat pl i hi
 induction d with
 | zero =>
  intro j hj
  refine Ev.step (fun _ => by rw [spec_PictureOk.l1]) (Ev.ip (by omega) (Ev.ip (by omega) ?_))
  rw [e]
  refine Ev.ng (by omega) ?_
  rw [wrap_succ i (by omega)]
  refine Ev.eq hr ?_
  rw [show j = pl[i].length by omega, List.drop_length]; rfl
 | succ d ih =>
  intro j hj
  have h : j < pl[i].length := by omega
  refine Ev.step (fun _ => by rw [spec_PictureOk.l1]) (Ev.ip (by omega) (Ev.ip (by omega) ?_))
  rw [e]
  refine Ev.ip (by omega) (Ev.ip (by omega) (Ev.ip hp ?_))
  rw [rd_nat _ j h, List.drop_eq_getElem_cons h]
  refine Ev.bind (Ev.c (spec_l01Between.val _ _ _)) ?_
  by_cases ha : (decide (0 ≤ pl[i][j]) && decide (pl[i][j] ≤ topOf p)) = true
  ·refine Ev.ip ha ?_
   rw [wrap_succ j (by omega)]
   refine Ev.eq (ih (j + 1) (by omega)) ?_
   rw [allW, allW, List.all_cons, ha, Bool.true_and]
  ·refine Ev.ng ha (Ev.eq (Ev.now _) ?_)
   rw [allW, List.all_cons, Bool.eq_false_iff.2 ha, Bool.false_and, Bool.false_and]
theorem spec_PictureOk.l0_ev (p w h : Int) (q : HeadOk p w h) (pl : List (List Int)) (hn : pl.length ≤ 4) :
  ∀ d i : Nat, i + d = pl.length → Ev (fun k => spec_PictureOk.l0 k (i : Int) p w h pl) (rowsIn (w * h) (topOf p) (pl.drop i)) := by
 have h1 := q.a1
 have h2 := q.a2
 intro d
 induction d with
 | zero =>
  intro i hi
  refine Ev.step (fun _ => by rw [spec_PictureOk.l0]) (Ev.ng (by omega) (Ev.eq (Ev.now _) ?_))
  rw [show i = pl.length by omega, List.drop_length]; rfl
 | succ d ih =>
  intro i hi
  have hlt : i < pl.length := by omega
  refine Ev.step (fun _ => by rw [spec_PictureOk.l0]) (Ev.ip (by omega) (Ev.ip (by omega) ?_))
  rw [rdL_nat pl i hlt, wrap_in (w * h) (by omega) (by omega), List.drop_eq_getElem_cons hlt]
  by_cases hw : (pl[i].length : Int) = w * h
  ·refine Ev.ip hw (Ev.eq (spec_PictureOk.l1_ev p w _ q.p0 pl i hlt hn (by omega) _ (ih (i + 1) (by omega)) pl[i].length 0 (by omega)) ?_)
   rw [rowsIn, rowsIn, List.all_cons, zT hw, Bool.true_and]; rfl
  ·refine Ev.ng hw (Ev.eq (Ev.now _) ?_)
   rw [rowsIn, List.all_cons, decide_eq_false hw, Bool.false_and, Bool.false_and]
theorem spec_PictureOk.j0_ev (p w h : Int) (b : Bool) (pl : List (List Int)) (hb : b = false → HeadOk p w h ∧ pl.length ≤ 4) : Ev (fun k => spec_PictureOk.j0 k b p w h pl) (!b && rowsIn (w * h) (topOf p) pl) := by
 refine Ev.step (fun _ => by rw [spec_PictureOk.j0]) ?_
 cases b with
 | true => exact Ev.ip rfl (Ev.now _)
 | false =>
  obtain ⟨h1, h2⟩ := hb rfl
  exact Ev.ng (by simp) (spec_PictureOk.l0_ev p w h h1 pl h2 pl.length 0 (Nat.zero_add _))
theorem spec_PictureOk.rest (p w h : Int) (hp : p = 8 ∨ p = 12) (pl : List (List Int)) :
  Ev (fun k => (spec_l01Between.f w 1 256).bind fun t1088 => (if t1088 = true then ((spec_l01Between.f h 1 256).bind fun t1089 => (if t1089 = true then (if (wrap64 (w * h)) > 16384 then (spec_PictureOk.j0 k true p w h pl) else ((spec_l01Between.f (pl.length : Int) 1 4).bind fun t1090 => (spec_PictureOk.j0 k (!t1090) p w h pl))) else (spec_PictureOk.j0 k true p w h pl))) else (spec_PictureOk.j0 k true p w h pl))) (picOkM p w h pl) := by
 have no : headOk p w h = false → picOkM p w h pl = (!true && rowsIn (w * h) (topOf p) pl) := fun e => by rw [picOkM, e]; rfl
 have bad := spec_PictureOk.j0_ev p w h true pl (fun e => by cases e)
 refine Ev.bind (Ev.c (spec_l01Between.val _ _ _)) ?_
 by_cases h1 : (decide (1 ≤ w) && decide (w ≤ 256)) = true
 ·refine Ev.ip h1 (Ev.bind (Ev.c (spec_l01Between.val _ _ _)) ?_)
  by_cases h2 : (decide (1 ≤ h) && decide (h ≤ 256)) = true
  ·refine Ev.ip h2 ?_
   have g1 := h1
   have g2 := h2
   simp only [Bool.and_eq_true, decide_eq_true_eq] at g1 g2
   have hm := mul_256 w h g1.1 g1.2 g2.1 g2.2
   rw [wrap_in (w * h) (by omega) (by omega)]
   by_cases h3 : w * h ≤ 16384
   ·refine Ev.ng (by omega) (Ev.bind (Ev.c (spec_l01Between.val _ _ _)) ?_)
    have hh : headOk p w h = true := by
     unfold headOk
     rw [h1, h2, zT h3]
     rcases hp with rfl | rfl <;> rfl
    refine Ev.eq (spec_PictureOk.j0_ev p w h _ pl (fun e => ⟨headOk_of hh, ?_⟩)) ?_
    ·simp only [Bool.not_eq_false', Bool.and_eq_true, decide_eq_true_eq] at e
     omega
    ·rw [picOkM, hh, Bool.not_not, Bool.true_and]
     congr 2
     ·rw [decide_eq_decide]; omega
     ·rw [decide_eq_decide]; omega
   ·refine Ev.ip (by omega) (Ev.eq bad (no ?_).symm)
    unfold headOk
    rw [decide_eq_false h3, Bool.and_false]
  ·refine Ev.ng h2 (Ev.eq bad (no ?_).symm)
   unfold headOk
   rw [Bool.eq_false_iff.2 h2, Bool.and_false, Bool.and_false, Bool.false_and]
 ·refine Ev.ng h1 (Ev.eq bad (no ?_).symm)
  unfold headOk
  rw [Bool.eq_false_iff.2 h1, Bool.false_and, Bool.and_false, Bool.false_and]
theorem spec_PictureOk.ev (p w h : Int) (pl : List (List Int)) : Ev (fun k => spec_PictureOk.f k p w h pl) (picOkM p w h pl) := by
 unfold spec_PictureOk.f
 by_cases h8 : p = 8
 ·exact Ev.ip h8 (spec_PictureOk.rest p w h (.inl h8) pl)
 ·refine Ev.ng h8 ?_
  by_cases h12 : p = 12
  ·exact Ev.ip h12 (spec_PictureOk.rest p w h (.inr h12) pl)
  ·refine Ev.ng h12 (Ev.eq (spec_PictureOk.j0_ev p w h true pl (fun e => by cases e)) ?_)
   rw [picOkM, headOk, decide_eq_false h8, decide_eq_false h12]; rfl
end Go.Proofs.Ytilimpjcdeeaiaa.G


namespace Go.Proofs.Ytilimpjcdeeaiaa.G
open Go.RowKit Go.Proofs.YtilimpjcdeeaiaaW.PrintWords Go.Proofs.YtilimpjcdeeaiaaW.PrintLast Go.Proofs.YtilimpjcdeeaiaaW.PrintMore
attribute [local go_sem] max2_int min2_int max_two min_two max_three min_three max_four min_four   -- for this text's walks alone
def impl_mayRestart.f (l0 : List (S177)) : Option (Bool) := if (l0.length : Int) > 0 then (if 0 ≤ (wrap64 ((l0.length : Int) - 1)) then (if (wrap64 ((l0.length : Int) - 1)) < (l0.length : Int) then (some (((rd_T177 l0 (wrap64 ((l0.length : Int) - 1))).f0) == 0)) else (none)) else (none)) else (some false)
set_option maxHeartbeats 8000000 in
set_option maxRecDepth 100000 in
theorem impl_mayRestart.calls (A0 : Option Addr) (c0 : Nat) (l0 : List (S177)) (r : Bool) (w : World) (hr0 : Kd.C k177 w A0 l0.length l0) (hc0 : l0.length ≤ c0) (h : impl_mayRestart.f l0 = some r) :
  Calls Try.prog 164 #[.slice A0 l0.length c0] w fun e w' => e = .returned (.bool r) ∧ Drawn0 w w' := by
 have HR0 := zA hr0
 have HC0 := zA hc0
 clear hr0 hc0
 have H : (if (l0.length : Int) > 0 then (if 0 ≤ (wrap64 ((l0.length : Int) - 1)) then (if (wrap64 ((l0.length : Int) - 1)) < (l0.length : Int) then (some (((rd_T177 l0 (wrap64 ((l0.length : Int) - 1))).f0) == 0)) else (none)) else (none)) else (some false)) = some r := h
 clear h
 by_cases c2 : (l0.length : Int) > 0
 ·rw [if_pos c2] at H
  have c2b0 : decide (0 < (l0.length : Int)) = true := zT c2
  have c2b1 : decide (0 < l0.length) = true := zT (by omega)
  clear c2
  obtain ⟨ji3, hji3⟩ : ∃ j_ : Int, (wrap64 ((l0.length : Int) - 1)) = j_ := ⟨_, rfl⟩
  replace H : (if 0 ≤ (ji3) then (if (ji3) < (l0.length : Int) then (some (((rd_T177 l0 (ji3)).f0) == 0)) else (none)) else (none)) = some r := by first | (rw [hji3] at H; exact H) | (simp only [hji3] at H ⊢; exact H)
  have hji3w : (IntKind.i64.wrap ((l0.length : Int) - 1)) = ji3 := (i64_w _).trans hji3
  by_cases c4 : 0 ≤ (ji3)
  ·rw [if_pos c4] at H
   have c4b0 : decide (0 ≤ (ji3)) = true := zT c4
   clear c4
   by_cases c5 : (ji3) < (l0.length : Int)
   ·rw [if_pos c5] at H
    have c5b0 : decide ((ji3) < (l0.length : Int)) = true := zT c5
    clear c5
    obtain rfl := Option.some.inj H
    have p1249 : 0 ≤ ((ji3) : Int) := zI (by first | (with_reducible assumption) | assumption)
    have q1249 : (ji3) < (l0.length : Int) := zI (by first | (with_reducible assumption) | assumption)
    obtain ⟨ad1249, A1249_1, c1249_1, e1249, hx1249_0, hx1249_1, hl1249_1, hi1249_1⟩ := at_T177 HR0.out (ji3) p1249 q1249
    cases e1249
    have HR1249_1 := zA hi1249_1
    have HC1249_1 := zA hl1249_1
    clear hi1249_1 hl1249_1
    replace p1249 := eq_true p1249
    replace q1249 := eq_true q1249
    go_enter Try.func164, Try.ntmps164
    go_wp2
    go_ret
    exact ⟨by first | rfl | (simp; done) | (simp only [← hji3] <;> (first | rfl | simp)) | (simp [*]; done), by repeat (first | exact Drawn0.refl _ | apply Drawn0.step)⟩
   ·rw [if_neg c5] at H
    exact absurd H (by simp)
  ·rw [if_neg c4] at H
   exact absurd H (by simp)
 ·rw [if_neg c2] at H
  have c2b0 : decide (0 < (l0.length : Int)) = false := decide_eq_false c2
  have c2b1 : decide (0 < l0.length) = false := decide_eq_false (by omega)
  clear c2
  obtain rfl := Option.some.inj H
  go_enter Try.func164, Try.ntmps164
  go_wp2
  go_ret
  exact ⟨by first | rfl | (simp; done) | (simp [*]; done), by repeat (first | exact Drawn0.refl _ | apply Drawn0.step)⟩
end Go.Proofs.Ytilimpjcdeeaiaa.G


namespace Go.Proofs.Ytilimpjcdeeaiaa.G
open Go.RowKit Go.Proofs.YtilimpjcdeeaiaaW.PrintWords Go.Proofs.YtilimpjcdeeaiaaW.PrintLast Go.Proofs.YtilimpjcdeeaiaaW.PrintMore
attribute [local go_sem] max2_int min2_int max_two min_two max_three min_three max_four min_four   -- for this text's walks alone
/-- bytes -/
def isB (b : List Int) : Bool := b.all fun x => decide (0 ≤ x) && decide (x ≤ 255)
theorem isB_all {b : List Int} (h : isB b = true) : ∀ x ∈ b, 0 ≤ x ∧ x ≤ 255 := by
 unfold isB at h; simp only [List.all_eq_true, Bool.and_eq_true, decide_eq_true_eq] at h; exact h
end Go.Proofs.Ytilimpjcdeeaiaa.G


namespace Go.Proofs.Ytilimpjcdeeaiaa.G
open Go.RowKit Go.Proofs.YtilimpjcdeeaiaaW.PrintWords Go.Proofs.YtilimpjcdeeaiaaW.PrintLast Go.Proofs.YtilimpjcdeeaiaaW.PrintMore
attribute [local go_sem] max2_int min2_int max_two min_two max_three min_three max_four min_four   -- for this text's walks alone
def impl_mayRun.f (l0 : List (S177)) : Option (Bool) := if (l0.length : Int) > 0 then (if 0 ≤ (wrap64 ((l0.length : Int) - 1)) then (if (wrap64 ((l0.length : Int) - 1)) < (l0.length : Int) then (some (((rd_T177 l0 (wrap64 ((l0.length : Int) - 1))).f0) != 0)) else (none)) else (none)) else (some false)
set_option maxHeartbeats 8000000 in
set_option maxRecDepth 100000 in
theorem impl_mayRun.calls (A0 : Option Addr) (c0 : Nat) (l0 : List (S177)) (r : Bool) (w : World) (hr0 : Kd.C k177 w A0 l0.length l0) (hc0 : l0.length ≤ c0) (h : impl_mayRun.f l0 = some r) :
  Calls Try.prog 169 #[.slice A0 l0.length c0] w fun e w' => e = .returned (.bool r) ∧ Drawn0 w w' := by
 have HR0 := zA hr0
 have HC0 := zA hc0
 clear hr0 hc0
 have H : (if (l0.length : Int) > 0 then (if 0 ≤ (wrap64 ((l0.length : Int) - 1)) then (if (wrap64 ((l0.length : Int) - 1)) < (l0.length : Int) then (some (((rd_T177 l0 (wrap64 ((l0.length : Int) - 1))).f0) != 0)) else (none)) else (none)) else (some false)) = some r := h
 clear h
 by_cases c2 : (l0.length : Int) > 0
 ·rw [if_pos c2] at H
  have c2b0 : decide (0 < (l0.length : Int)) = true := zT c2
  have c2b1 : decide (0 < l0.length) = true := zT (by omega)
  clear c2
  obtain ⟨ji3, hji3⟩ : ∃ j_ : Int, (wrap64 ((l0.length : Int) - 1)) = j_ := ⟨_, rfl⟩
  replace H : (if 0 ≤ (ji3) then (if (ji3) < (l0.length : Int) then (some (((rd_T177 l0 (ji3)).f0) != 0)) else (none)) else (none)) = some r := by first | (rw [hji3] at H; exact H) | (simp only [hji3] at H ⊢; exact H)
  have hji3w : (IntKind.i64.wrap ((l0.length : Int) - 1)) = ji3 := (i64_w _).trans hji3
  by_cases c4 : 0 ≤ (ji3)
  ·rw [if_pos c4] at H
   have c4b0 : decide (0 ≤ (ji3)) = true := zT c4
   clear c4
   by_cases c5 : (ji3) < (l0.length : Int)
   ·rw [if_pos c5] at H
    have c5b0 : decide ((ji3) < (l0.length : Int)) = true := zT c5
    clear c5
    obtain rfl := Option.some.inj H
    have p1250 : 0 ≤ ((ji3) : Int) := zI (by first | (with_reducible assumption) | assumption)
    have q1250 : (ji3) < (l0.length : Int) := zI (by first | (with_reducible assumption) | assumption)
    obtain ⟨ad1250, A1250_1, c1250_1, e1250, hx1250_0, hx1250_1, hl1250_1, hi1250_1⟩ := at_T177 HR0.out (ji3) p1250 q1250
    cases e1250
    have HR1250_1 := zA hi1250_1
    have HC1250_1 := zA hl1250_1
    clear hi1250_1 hl1250_1
    replace p1250 := eq_true p1250
    replace q1250 := eq_true q1250
    go_enter Try.func169, Try.ntmps169
    go_wp2
    go_ret
    exact ⟨by first | rfl | (simp; done) | (simp only [← hji3] <;> (first | rfl | simp)) | (simp [*]; done), by repeat (first | exact Drawn0.refl _ | apply Drawn0.step)⟩
   ·rw [if_neg c5] at H
    exact absurd H (by simp)
  ·rw [if_neg c4] at H
   exact absurd H (by simp)
 ·rw [if_neg c2] at H
  have c2b0 : decide (0 < (l0.length : Int)) = false := decide_eq_false c2
  have c2b1 : decide (0 < l0.length) = false := decide_eq_false (by omega)
  clear c2
  obtain rfl := Option.some.inj H
  go_enter Try.func169, Try.ntmps169
  go_wp2
  go_ret
  exact ⟨by first | rfl | (simp; done) | (simp [*]; done), by repeat (first | exact Drawn0.refl _ | apply Drawn0.step)⟩
end Go.Proofs.Ytilimpjcdeeaiaa.G


namespace Go.Proofs.Ytilimpjcdeeaiaa.G
open Go.RowKit Go.Proofs.YtilimpjcdeeaiaaW.PrintWords Go.Proofs.YtilimpjcdeeaiaaW.PrintLast Go.Proofs.YtilimpjcdeeaiaaW.PrintMore
attribute [local go_sem] max2_int min2_int max_two min_two max_three min_three max_four min_four   -- for this text's walks alone
def impl_within.f (a0 : Int) (a1 : Int) (a2 : Int) : Option (Bool) := if a0 ≥ a1 then (some (decide (a0 ≤ a2))) else (some false)
set_option maxHeartbeats 8000000 in
set_option maxRecDepth 100000 in
theorem impl_within.calls (a0 : Int) (a1 : Int) (a2 : Int) (r : Bool) (w : World) (h : impl_within.f a0 a1 a2 = some r) :
  Calls Try.prog 53 #[.int .i64 a0, .int .i64 a1, .int .i64 a2] w fun e w' => e = .returned (.bool r) ∧ Drawn0 w w' := by
 have H : (if a0 ≥ a1 then (some (decide (a0 ≤ a2))) else (some false)) = some r := h
 clear h
 by_cases c4 : a0 ≥ a1
 ·rw [if_pos c4] at H
  have c4b0 : decide (a1 ≤ a0) = true := zT c4
  clear c4
  obtain rfl := Option.some.inj H
  go_enter Try.func53, Try.ntmps53
  go_wp2
  go_ret
  exact ⟨by first | rfl | (simp; done) | (simp [*]; done), by repeat (first | exact Drawn0.refl _ | apply Drawn0.step)⟩
 ·rw [if_neg c4] at H
  have c4b0 : decide (a1 ≤ a0) = false := decide_eq_false c4
  clear c4
  obtain rfl := Option.some.inj H
  go_enter Try.func53, Try.ntmps53
  go_wp2
  go_ret
  exact ⟨by first | rfl | (simp; done) | (simp [*]; done), by repeat (first | exact Drawn0.refl _ | apply Drawn0.step)⟩
theorem impl_within.val (x lo hi : Int) : impl_within.f x lo hi = some (decide (lo ≤ x) && decide (x ≤ hi)) := by
 unfold impl_within.f
 by_cases h1 : x ≥ lo
 ·rw [if_pos h1]; simp [ge_iff_le.mp h1]
 ·rw [if_neg h1]; have : ¬ lo ≤ x := h1; simp [this]
end Go.Proofs.Ytilimpjcdeeaiaa.G


namespace Go.Proofs.Ytilimpjcdeeaiaa.G
open Go.RowKit Go.Proofs.YtilimpjcdeeaiaaW.PrintWords Go.Proofs.YtilimpjcdeeaiaaW.PrintLast Go.Proofs.YtilimpjcdeeaiaaW.PrintMore
attribute [local go_sem] max2_int min2_int max_two min_two max_three min_three max_four min_four   -- for this text's walks alone
def impl_isRestart.f (a0 : Int) : Option (Bool) := (impl_within.f a0 240 247).bind fun t1251 => (some t1251)
set_option maxHeartbeats 8000000 in
set_option maxRecDepth 100000 in
theorem impl_isRestart.calls (a0 : Int) (r : Bool) (w : World) (h : impl_isRestart.f a0 = some r) :
  Calls Try.prog 170 #[.int .i64 a0] w fun e w' => e = .returned (.bool r) ∧ Drawn0 w w' := by
 have H : ((impl_within.f a0 240 247).bind fun t1251 => (some t1251)) = some r := h
 clear h
 replace H := Option.bind_eq_some_iff.mp H
 obtain ⟨t1251, A20, H⟩ := H
 replace H : (some t1251) = some r := H
 have A2 := zA A20
 clear A20
 obtain rfl := Option.some.inj H
 go_enter Try.func170, Try.ntmps170
 go_wp2_with (first | ((with_reducible refine gate_callee (f := 53) rfl ?_); refine goesL_ (some 4) rfl rfl Try.func53 (by kernel_rfl) rfl #[.int .i64 a0, .int .i64 240, .int .i64 247] rfl (by (try simp only [zU, zV, zW]); first | done | rfl | (simp only [zR, zQ]; rfl)) ?_; (with_reducible refine (impl_within.calls a0 240 247 t1251 _ A2.out).mono ?_); rintro e w' ⟨rfl, ⟨nd, rfl⟩⟩; refine ⟨_, rfl, ?_⟩))
 go_ret
 exact ⟨by first | rfl | (simp; done) | (simp [*]; done), by repeat (first | exact Drawn0.refl _ | apply Drawn0.step)⟩
end Go.Proofs.Ytilimpjcdeeaiaa.G


namespace Go.Proofs.Ytilimpjcdeeaiaa.G
open Go.RowKit Go.Proofs.YtilimpjcdeeaiaaW.PrintWords Go.Proofs.YtilimpjcdeeaiaaW.PrintLast Go.Proofs.YtilimpjcdeeaiaaW.PrintMore
attribute [local go_sem] max2_int min2_int max_two min_two max_three min_three max_four min_four   -- for this text's walks alone
/-- bytes up to a 255 that no 0 follows, and how many these are -/
def un : List Int → List Int × Nat
 | [] => ([], 0)
 | [x] => if x = 255 then ([], 0) else ([x], 1)
 | x :: y :: t => if x = 255 then (if y = 0 then (255 :: (un t).1, (un t).2 + 2) else ([], 0)) else (x :: (un (y :: t)).1, (un (y :: t)).2 + 1)
def mayRunM (l : List S177) : Bool := match l.getLast? with | some s => s.f0 != 0 | none => false
def mayRestM (l : List S177) : Bool := match l.getLast? with | some s => s.f0 == 0 | none => false
def isRest (m : Int) : Bool := decide (240 ≤ m) && decide (m ≤ 247)
/-- the mark that the rest begins with, 0 of run data -/
def markM (rest : List Int) : Int := if rd rest 0 ≠ 255 ∨ rd rest 1 = 0 then 0 else rd rest 1
def badM (m : Int) (l : List S177) : Bool := decide (247 < m) || (decide (m = 0) && !mayRunM l) || (isRest m && !mayRestM l)
def lenM (rest : List Int) : Int := rd rest 2 * 256 + rd rest 3
/-- one segment is read: the end, a fault, the place behind, the segments -/
def nxt (b : List Int) (at_ : Nat) (l : List S177) : Bool × Int × Int × Nat × List S177 :=
 if b.drop at_ = [] ∨ b.drop at_ = [255] then (false, 3, b.length, at_, l)
 else if markM (b.drop at_) = 254 then (true, 0, 0, at_ + 2, l)
 else if badM (markM (b.drop at_)) l then (false, 4, at_, at_, l)
 else if l.length = 300 then (false, 6, at_, at_, l)
 else if markM (b.drop at_) = 0 then
  (if 20000 < (un (b.drop at_)).1.length then (false, 5, at_, at_, l) else (false, 0, 0, at_ + (un (b.drop at_)).2, l ++ [⟨0, (un (b.drop at_)).1⟩]))
 else if isRest (markM (b.drop at_)) then (false, 0, 0, at_ + 2, l ++ [⟨markM (b.drop at_), []⟩])
 else if (b.drop at_).length < 4 then (false, 3, b.length, at_, l)
 else if 20000 < lenM (b.drop at_) then (false, 5, at_, at_, l)
 else if ((b.drop at_).length : Int) < 4 + lenM (b.drop at_) then (false, 3, b.length, at_, l)
 else (false, 0, 0, at_ + 4 + (lenM (b.drop at_)).toNat, l ++ [⟨markM (b.drop at_), ((b.drop at_).drop 4).take (lenM (b.drop at_)).toNat⟩])
theorem un_ne (x : Int) (t : List Int) (h : x ≠ 255) : un (x :: t) = (x :: (un t).1, (un t).2 + 1) := by
 cases t with
 | nil => simp [un, h]
 | cons y t => simp only [un]; rw [if_neg h]
theorem un_two (t : List Int) : un (255 :: 0 :: t) = (255 :: (un t).1, (un t).2 + 2) := by simp [un]
theorem un_stop (y : Int) (t : List Int) (h : y ≠ 0) : un (255 :: y :: t) = ([], 0) := by simp [un, h]
theorem un_one : un [255] = ([], 0) := by simp [un]
theorem un_facts : ∀ (n : Nat) (l : List Int), l.length ≤ n → (un l).2 ≤ l.length ∧ (un l).1.length ≤ l.length ∧ (l.drop (un l).2 = [] ∨ ∃ t, l.drop (un l).2 = 255 :: t) := by
 intro n
 induction n with
 | zero =>
  intro l h
  obtain rfl : l = [] := List.eq_nil_of_length_eq_zero (by omega)
  simp [un]
 | succ n ih =>
  intro l h
  match l, h with
  | [], _ => simp [un]
  | x :: t, h =>
   by_cases hx : x = 255
   ·subst hx
    match t, h with
    | [], _ => rw [un_one]; simp
    | y :: t, h =>
     by_cases hy : y = 0
     ·subst hy
      rw [un_two]
      obtain ⟨h1, h2, h3⟩ := ih t (by simp at h; omega)
      refine ⟨by simp; omega, by simp; omega, ?_⟩
      simpa using h3
     ·rw [un_stop y t hy]; simp
   ·rw [un_ne x t hx]
    obtain ⟨h1, h2, h3⟩ := ih t (by simp at h; omega)
    refine ⟨by simp; omega, by simp; omega, ?_⟩
    simpa using h3
theorem un_le (l : List Int) : (un l).2 ≤ l.length := (un_facts _ l (Nat.le_refl _)).1
theorem un_len (l : List Int) : (un l).1.length ≤ l.length := (un_facts _ l (Nat.le_refl _)).2.1
theorem un_end (l : List Int) : l.drop (un l).2 = [] ∨ ∃ t, l.drop (un l).2 = 255 :: t := (un_facts _ l (Nat.le_refl _)).2.2
theorem drop_two (b : List Int) (i : Nat) (h : i + 1 < b.length) : b.drop i = b[i] :: b[i + 1] :: b.drop (i + 2) := by
 rw [List.drop_eq_getElem_cons (by omega), List.drop_eq_getElem_cons h]
theorem drop_last (b : List Int) (i : Nat) (h : i < b.length) (h2 : i + 1 = b.length) : b.drop i = [b[i]] := by
 rw [List.drop_eq_getElem_cons h, List.drop_of_length_le (by omega)]
end Go.Proofs.Ytilimpjcdeeaiaa.G

