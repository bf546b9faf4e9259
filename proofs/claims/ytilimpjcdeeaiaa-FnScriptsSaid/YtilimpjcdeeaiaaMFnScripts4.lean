import Derived.Deep.RegionLaw
import Derived.IntWalk
import Derived.Laws.NewBlocks
import Derived.Test.YtilimpjcdeeaiaaMFnScripts3
set_option linter.unusedVariables false
set_option linter.unusedSimpArgs false
namespace Go.Proofs.Ytilimpjcdeeaiaa.G
open Go.RowKit Go.Proofs.YtilimpjcdeeaiaaW.PrintWords Go.Proofs.YtilimpjcdeeaiaaW.PrintLast Go.Proofs.YtilimpjcdeeaiaaW.PrintMore
attribute [local go_sem] max2_int min2_int max_two min_two max_three min_three max_four min_four   -- for this text's walks alone
/-- A state of type 137 at block g of W; what its slices lead to came in by w0. -/
def IsS137 (w0 W : World) (g : Nat) (f0 : List Int) (f1 : Int) (f2 : Int) : Prop := ∃ A0 c0, W.heap[g]? = some (.cells #[.slice A0 f0.length c0, .int .i64 f1, .int .i64 f2] 137 (0, 0)) ∧ w0.heap.size ≤ g ∧ Kd.C (Kd.int .u8) w0 A0 f0.length f0
theorem IsS137.grown {w0 W : World} {g : Nat} {f0 : List Int} {f1 : Int} {f2 : Int} {W1 : World} {row : Option Nat} (h : IsS137 w0 W g f0 f1 f2) (hw : W.grownBy W1 row) (hne : some g ≠ row) : IsS137 w0 W1 g f0 f1 f2 := by
 obtain ⟨A0, c0, hb, hg, hr0⟩ := h
 exact ⟨A0, c0, blk_grown hb hw hne, hg, hr0⟩
theorem IsS137.own_neN {w0 W : World} {g : Nat} {f0 : List Int} {f1 : Int} {f2 : Int} {α : Type} {d : Kd α} {e : Nat} {base : Nat} {ok : Nat → Prop} {v : Value} {xs : List α} (h : IsS137 w0 W g f0 f1 f2) (ho : Kd.N d e W base ok v xs) (ht : e ≠ 137) : some g ≠ v.ownBlock := by
 obtain ⟨A0, c0, hb, hg, hr0⟩ := h
 exact Kd.N_ne ho hb ht
theorem IsS137.fresh {w0 W : World} {g : Nat} {f0 : List Int} {f1 : Int} {f2 : Int} (h : IsS137 w0 W g f0 f1 f2) : ∀ k, W.heap.size ≤ k → k ≠ g := by
 obtain ⟨A0, c0, hb, hg, hr0⟩ := h
 exact Kd.freshB hb
theorem IsS137.kept {w0 W : World} {g : Nat} {f0 : List Int} {f1 : Int} {f2 : Int} {W1 : World} {S : Nat → Prop} (h : IsS137 w0 W g f0 f1 f2) (hk : Kept W W1 S) (hne : ¬ S g) : IsS137 w0 W1 g f0 f1 f2 := by
 obtain ⟨A0, c0, hb, hg, hr0⟩ := h
 exact ⟨A0, c0, blk_kept hb hk hne, hg, hr0⟩
theorem IsS137.below {w0 W : World} {g : Nat} {f0 : List Int} {f1 : Int} {f2 : Int} {W1 : World} (h : IsS137 w0 W g f0 f1 f2) (hw : Below W.heap.size W W1) : IsS137 w0 W1 g f0 f1 f2 := h.grown (grown_of_below hw none) (by simp)
theorem IsS137.alloc {w0 W : World} {g : Nat} {f0 : List Int} {f1 : Int} {f2 : Int} (h : IsS137 w0 W g f0 f1 f2) (o : Obj) : IsS137 w0 (W.alloc o) g f0 f1 f2 := h.below (zC (Below.refl _ _) o)
theorem IsS137.drewN {w0 W : World} {g : Nat} {f0 : List Int} {f1 : Int} {f2 : Int} (h : IsS137 w0 W g f0 f1 f2) (m : Nat) : IsS137 w0 (W.drewN m) g f0 f1 f2 := h
theorem IsS137.drew {w0 W : World} {g : Nat} {f0 : List Int} {f1 : Int} {f2 : Int} (h : IsS137 w0 W g f0 f1 f2) : IsS137 w0 W.drew g f0 f1 f2 := h
theorem IsS137.at_ {w0 W : World} {g : Nat} {f0 : List Int} {f1 : Int} {f2 : Int} {w' : World} {m : Nat} (hq : W.drewN m = w') (h : IsS137 w0 W g f0 f1 f2) : IsS137 w0 w' g f0 f1 f2 := by subst hq; exact IsS137.drewN h m
theorem IsS137.apart {w0 W : World} {g : Nat} {f0 : List Int} {f1 : Int} {f2 : Int} {α : Type} {d : Kd α} {e : Nat} {base : Nat} {ok : Nat → Prop} {v : Value} {xs : List α} (h : IsS137 w0 W g f0 f1 f2) (ho : d.R e W base ok v xs) (ht : ∀ q, q ∈ e :: d.E → q ≠ 137) : d.R e W base (fun k => ok k ∧ k ≠ g) v xs := by
 obtain ⟨A0, c0, hb, hg, hr0⟩ := h
 exact zY ho hb ht
theorem IsS137.lt {w0 W : World} {g : Nat} {f0 : List Int} {f1 : Int} {f2 : Int} (h : IsS137 w0 W g f0 f1 f2) : g < W.heap.size := by
 obtain ⟨A0, c0, hb, hg, hr0⟩ := h
 exact blk_lt hb
theorem IsS137.ge {w0 W : World} {g : Nat} {f0 : List Int} {f1 : Int} {f2 : Int} (h : IsS137 w0 W g f0 f1 f2) : w0.heap.size ≤ g := by
 obtain ⟨A0, c0, hb, hg, hr0⟩ := h
 exact hg
theorem IsS137.ne_blk {w0 W : World} {g : Nat} {f0 : List Int} {f1 : Int} {f2 : Int} {a : Nat} {cs : Array Value} {t : TypeId} {fr : Nat × Nat} (h : IsS137 w0 W g f0 f1 f2) (hb2 : W.heap[a]? = some (.cells cs t fr)) (ht : t ≠ 137) : g ≠ a := by
 obtain ⟨A0, c0, hb, hg, hr0⟩ := h
 rintro rfl
 rw [hb] at hb2
 injection hb2 with hb2
 injection hb2 with _ ht2
 exact ht ht2.symm
theorem IsS137.far {w0 W : World} {g : Nat} {f0 : List Int} {f1 : Int} {f2 : Int} {p : Addr} (h : IsS137 w0 W g f0 f1 f2) (hne : g ≠ p.block) (u : Value) : IsS137 w0 (W.setCell p u) g f0 f1 f2 := by
 obtain ⟨A0, c0, hb, hg, hr0⟩ := h
 exact ⟨A0, c0, blk_far hb hne u, hg, hr0⟩
theorem cellS137_0 {W : World} {g : Nat} {A0 : Option Addr} {c0 : Nat} {f0 : List Int} {f1 : Int} {f2 : Int} (h : W.heap[g]? = some (.cells #[.slice A0 f0.length c0, .int .i64 f1, .int .i64 f2] 137 (0, 0))) : W.cell? ⟨g, 0, none⟩ = some (.slice A0 f0.length c0) := (zK h 0).trans rfl
theorem cellS137_1 {W : World} {g : Nat} {A0 : Option Addr} {c0 : Nat} {f0 : List Int} {f1 : Int} {f2 : Int} (h : W.heap[g]? = some (.cells #[.slice A0 f0.length c0, .int .i64 f1, .int .i64 f2] 137 (0, 0))) : W.cell? ⟨g, 1, none⟩ = some (.int .i64 f1) := (zK h 1).trans rfl
theorem IsS137.set_1 {w0 W : World} {g : Nat} {f0 : List Int} {f1 : Int} {f2 : Int} (h : IsS137 w0 W g f0 f1 f2) (x : Int) : IsS137 w0 (W.setCell ⟨g, 1, none⟩ (.int .i64 x)) g f0 x f2 := by
 obtain ⟨A0, c0, hb, hg, hr0⟩ := h
 exact ⟨A0, c0, by simpa using blk_set hb 1 (.int .i64 x), hg, hr0⟩
theorem cellS137_2 {W : World} {g : Nat} {A0 : Option Addr} {c0 : Nat} {f0 : List Int} {f1 : Int} {f2 : Int} (h : W.heap[g]? = some (.cells #[.slice A0 f0.length c0, .int .i64 f1, .int .i64 f2] 137 (0, 0))) : W.cell? ⟨g, 2, none⟩ = some (.int .i64 f2) := (zK h 2).trans rfl
theorem IsS137.set_2 {w0 W : World} {g : Nat} {f0 : List Int} {f1 : Int} {f2 : Int} (h : IsS137 w0 W g f0 f1 f2) (x : Int) : IsS137 w0 (W.setCell ⟨g, 2, none⟩ (.int .i64 x)) g f0 f1 x := by
 obtain ⟨A0, c0, hb, hg, hr0⟩ := h
 exact ⟨A0, c0, by simpa using blk_set hb 2 (.int .i64 x), hg, hr0⟩
def spec_l01Open.f (l0 : List Int) : Option (List Int × Int × Int) := some (l0, 0, 13 + ((l0.length : Int) % 1000))
set_option maxHeartbeats 8000000 in
set_option maxRecDepth 100000 in
theorem spec_l01Open.calls (A0 : Option Addr) (c0 : Nat) (l0 : List Int) (r1 : List Int) (r2 : Int) (r3 : Int) (w0 w : World) (hB : Below w0.heap.size w0 w) (hr0 : Kd.C (Kd.int .u8) w0 A0 l0.length l0) (hc0 : l0.length ≤ c0) (h : spec_l01Open.f l0 = some (r1, r2, r3)) :
  Calls Try.prog 46 #[.slice A0 l0.length c0] w fun e w' => ∃ g_ : Nat, e = .returned (.pointer (some ⟨g_, 0, none⟩)) ∧ IsS137 w0 w' g_ r1 r2 r3 ∧ Below w0.heap.size w0 w' ∧ Below w.heap.size w w' := by
 have hu137 := Try.underlying137
 have HR0 := zA hr0
 have HC0 := zA hc0
 clear hr0 hc0
 have HBW := zA (Below.refl w.heap.size w)
 have HW0 := zA hB.size
 have HB := zA hB
 clear hB
 have H : (some (l0, 0, 13 + ((l0.length : Int) % 1000))) = some (r1, r2, r3) := h
 clear h
 simp only [Option.some.injEq, Prod.mk.injEq] at H
 obtain ⟨rfl, rfl, rfl⟩ := H
 go_enter Try.func46, Try.ntmps46
 go_wp2_with (first | ((with_reducible refine gate_dst (N := 9) rfl ?_); refine box_event ?hg (N := 9) ?hd (cs := #[.slice A0 l0.length c0, .int .i64 0, .int .i64 (13 + ((l0.length : Int) % 1000))]) (t := 137) ?hr ?_; (case hd => rfl); (case hg => rfl); (case hr => first | (go_simp; done) | (go_simp; rfl)); intro gb101 hg w2 hbox hb; have n0_ := zA (below_step HBW.out hb); have n1_ := zA (below_step (by repeat (first | (with_reducible first | exact HB.out | apply zC | apply zB | apply zF) | exact HB.out)) hb); have n2_ := zA (hbox); have n3_ := zA ((by rw [hg]; exact (zL (by repeat (first | (with_reducible first | exact HBW.out | apply zC | apply zB | apply zF) | exact HBW.out))) : w.heap.size ≤ gb101)); have n4_ := zA ((Nat.le_trans HW0.out (by rw [hg]; exact (zL (by repeat (first | (with_reducible first | exact HBW.out | apply zC | apply zB | apply zF) | exact HBW.out))) : w.heap.size ≤ gb101) : w0.heap.size ≤ gb101)); clear HBW; clear HB; have HBW := n0_; have HB := n1_; have BK101 := n2_; have GW101 := n3_; have GE101 := n4_; clear n0_ n1_ n2_ n3_ n4_; clear hb hbox hg))
 go_ret
 exact ⟨_, rfl, (show IsS137 w0 _ gb101 l0 0 (13 + ((l0.length : Int) % 1000)) from ⟨_, _, by (with_reducible repeat (first | refine zG ?_ _ | refine zH ?_ | refine zD ?_ _)); exact BK101.out, GE101.out, HR0.out⟩), by repeat (first | (with_reducible first | exact HB.out | apply zC | apply zB | apply zF | refine zE ?_ GE101.out) | exact HB.out), by repeat (first | (with_reducible first | exact HBW.out | apply zC | apply zB | apply zF | refine zE ?_ GW101.out) | exact HBW.out)⟩
end Go.Proofs.Ytilimpjcdeeaiaa.G


namespace Go.Proofs.Ytilimpjcdeeaiaa.G
open Go.RowKit Go.Proofs.YtilimpjcdeeaiaaW.PrintWords Go.Proofs.YtilimpjcdeeaiaaW.PrintLast Go.Proofs.YtilimpjcdeeaiaaW.PrintMore
attribute [local go_sem] max2_int min2_int max_two min_two max_three min_three max_four min_four   -- for this text's walks alone
def spec_l01Cur_pick.f (s0_0 : List Int) (s0_1 : Int) (s0_2 : Int) (a1 : Int) : Option (Int × Int × Int) := if a1 < 2 then (some (0, s0_1, s0_2)) else (if s0_1 < (s0_0.length : Int) then (if 0 ≤ s0_1 then (if a1 > 256 then (if (wrap64 (s0_1 + 1)) < (s0_0.length : Int) then (if 0 ≤ (wrap64 (s0_1 + 1)) then (if a1 = 0 then (none) else (some (Int.tmod (wrap64 ((wrap64 (256 * (wrap64 (rd s0_0 s0_1)))) + (wrap64 (rd s0_0 (wrap64 (s0_1 + 1)))))) a1, wrap64 ((wrap64 (s0_1 + 1)) + 1), s0_2))) else (none)) else (if a1 = 0 then (none) else (some (Int.tmod (wrap64 (rd s0_0 s0_1)) a1, wrap64 (s0_1 + 1), s0_2)))) else (if a1 = 0 then (none) else (some (Int.tmod (wrap64 (rd s0_0 s0_1)) a1, wrap64 (s0_1 + 1), s0_2)))) else (none)) else (if (s0_0.length : Int) > 0 then (if (s0_0.length : Int) = 0 then (none) else (if 0 ≤ (Int.tmod s0_1 (s0_0.length : Int)) then (if (Int.tmod s0_1 (s0_0.length : Int)) < (s0_0.length : Int) then (if a1 = 0 then (none) else (some (Int.tmod (wrap64 ((wrap64 (Int.tdiv (Int.tmod (wrap64 ((wrap64 (s0_2 * 1103)) + 12345)) 65521) 3)) + (wrap64 (rd s0_0 (Int.tmod s0_1 (s0_0.length : Int)))))) a1, wrap64 (s0_1 + 1), Int.tmod (wrap64 ((wrap64 (s0_2 * 1103)) + 12345)) 65521))) else (none)) else (none))) else (if a1 = 0 then (none) else (some (Int.tmod (wrap64 (Int.tdiv (Int.tmod (wrap64 ((wrap64 (s0_2 * 1103)) + 12345)) 65521) 3)) a1, wrap64 (s0_1 + 1), Int.tmod (wrap64 ((wrap64 (s0_2 * 1103)) + 12345)) 65521)))))
set_option maxHeartbeats 8000000 in
set_option maxRecDepth 100000 in
theorem spec_l01Cur_pick.calls (g : Nat) (s0_0 : List Int) (s0_1 : Int) (s0_2 : Int) (a1 : Int) (r1 : Int) (r2 : Int) (r3 : Int) (w0 w : World) (hI : IsS137 w0 w g s0_0 s0_1 s0_2) (hB : Below w0.heap.size w0 w) (h : spec_l01Cur_pick.f s0_0 s0_1 s0_2 a1 = some (r1, r2, r3)) :
  Calls Try.prog 51 #[.pointer (some ⟨g, 0, none⟩), .int .i64 a1] w fun e w' => e = .returned (.int .i64 r1) ∧ IsS137 w0 w' g s0_0 r2 r3 ∧ Below w0.heap.size w0 w' ∧ KeepBut w w' g none := by
 have HI0 := zA hI
 have HK := zA (KeepBut.refl w g none)
 have HL := zA hB.size
 clear hI
 have HW0 := zA hB.size
 have HB := zA hB
 clear hB
 have H : (if a1 < 2 then (some (0, s0_1, s0_2)) else (if s0_1 < (s0_0.length : Int) then (if 0 ≤ s0_1 then (if a1 > 256 then (if (wrap64 (s0_1 + 1)) < (s0_0.length : Int) then (if 0 ≤ (wrap64 (s0_1 + 1)) then (if a1 = 0 then (none) else (some (Int.tmod (wrap64 ((wrap64 (256 * (wrap64 (rd s0_0 s0_1)))) + (wrap64 (rd s0_0 (wrap64 (s0_1 + 1)))))) a1, wrap64 ((wrap64 (s0_1 + 1)) + 1), s0_2))) else (none)) else (if a1 = 0 then (none) else (some (Int.tmod (wrap64 (rd s0_0 s0_1)) a1, wrap64 (s0_1 + 1), s0_2)))) else (if a1 = 0 then (none) else (some (Int.tmod (wrap64 (rd s0_0 s0_1)) a1, wrap64 (s0_1 + 1), s0_2)))) else (none)) else (if (s0_0.length : Int) > 0 then (if (s0_0.length : Int) = 0 then (none) else (if 0 ≤ (Int.tmod s0_1 (s0_0.length : Int)) then (if (Int.tmod s0_1 (s0_0.length : Int)) < (s0_0.length : Int) then (if a1 = 0 then (none) else (some (Int.tmod (wrap64 ((wrap64 (Int.tdiv (Int.tmod (wrap64 ((wrap64 (s0_2 * 1103)) + 12345)) 65521) 3)) + (wrap64 (rd s0_0 (Int.tmod s0_1 (s0_0.length : Int)))))) a1, wrap64 (s0_1 + 1), Int.tmod (wrap64 ((wrap64 (s0_2 * 1103)) + 12345)) 65521))) else (none)) else (none))) else (if a1 = 0 then (none) else (some (Int.tmod (wrap64 (Int.tdiv (Int.tmod (wrap64 ((wrap64 (s0_2 * 1103)) + 12345)) 65521) 3)) a1, wrap64 (s0_1 + 1), Int.tmod (wrap64 ((wrap64 (s0_2 * 1103)) + 12345)) 65521)))))) = some (r1, r2, r3) := h
 clear h
 by_cases c3 : a1 < 2
 ·rw [if_pos c3] at H
  have c3b0 : decide (a1 < 2) = true := zT c3
  clear c3
  simp only [Option.some.injEq, Prod.mk.injEq] at H
  obtain ⟨rfl, rfl, rfl⟩ := H
  go_enter Try.func51, Try.ntmps51
  go_wp2
  repeat (go_quiet (fail); try go_wp2)
  go_ret
  exact ⟨by first | rfl | (simp [errW_none, errW_some] <;> rfl) | (simp [*, errW_none, errW_some] <;> rfl), by repeat (first | (with_reducible first | exact HI0.out | apply IsS137.alloc | apply IsS137.drewN | apply IsS137.drew | apply IsS137.set_1 | apply IsS137.set_2) | exact HI0.out), by repeat (first | (with_reducible first | exact HB.out | apply zC | apply zB | apply zF | refine zE ?_ (IsS137.ge HI0.out)) | exact HB.out), by repeat (first | (with_reducible first | exact HK.out | apply zZ | apply yA | apply yB | apply yC) | exact HK.out)⟩
 ·rw [if_neg c3] at H
  have c3b0 : decide (a1 < 2) = false := decide_eq_false c3
  clear c3
  by_cases c4 : s0_1 < (s0_0.length : Int)
  ·rw [if_pos c4] at H
   have c4b0 : decide (s0_1 < (s0_0.length : Int)) = true := zT c4
   clear c4
   by_cases c5 : 0 ≤ s0_1
   ·rw [if_pos c5] at H
    have c5b0 : decide (0 ≤ s0_1) = true := zT c5
    clear c5
    by_cases c6 : a1 > 256
    ·rw [if_pos c6] at H
     have c6b0 : decide (256 < a1) = true := zT c6
     clear c6
     by_cases c7 : (wrap64 (s0_1 + 1)) < (s0_0.length : Int)
     ·rw [if_pos c7] at H
      have c7b0 : decide ((wrap64 (s0_1 + 1)) < (s0_0.length : Int)) = true := zT c7
      clear c7
      obtain ⟨ji8, hji8⟩ : ∃ j_ : Int, (wrap64 (s0_1 + 1)) = j_ := ⟨_, rfl⟩
      replace H : (if 0 ≤ (ji8) then (if a1 = 0 then (none) else (some (Int.tmod (wrap64 ((wrap64 (256 * (wrap64 (rd s0_0 s0_1)))) + (wrap64 (rd s0_0 (ji8))))) a1, wrap64 ((ji8) + 1), s0_2))) else (none)) = some (r1, r2, r3) := by first | (rw [hji8] at H; exact H) | (simp only [hji8] at H ⊢; exact H)
      (try rw [hji8] at c7b0)
      have hji8w : (IntKind.i64.wrap (s0_1 + 1)) = ji8 := (i64_w _).trans hji8
      by_cases c9 : 0 ≤ (ji8)
      ·rw [if_pos c9] at H
       have c9b0 : decide (0 ≤ (ji8)) = true := zT c9
       clear c9
       by_cases c10 : a1 = 0
       ·rw [if_pos c10] at H
        exact absurd H (by simp)
       ·rw [if_neg c10] at H
        have c10b0 : (a1 == 0) = false := beq_eq_false_iff_ne.mpr c10
        have c10b1 : (a1 != 0) = true := bne_iff_ne.mpr c10
        simp only [Option.some.injEq, Prod.mk.injEq] at H
        obtain ⟨rfl, rfl, rfl⟩ := H
        obtain ⟨ASz11_0, cSz11_0, HGz11, hgz11, HSz11_0⟩ := HI0.out
        have hcz11_0 := cellS137_0 HGz11
        have hcz11_1 := cellS137_1 HGz11
        have hcz11_2 := cellS137_2 HGz11
        have hfz11_1 := zJ HGz11 1
        have hfz11_2 := zJ HGz11 2
        clear HGz11 hgz11
        have p102 : 0 ≤ (s0_1 : Int) := zI (by first | (with_reducible assumption) | assumption)
        have q102 : s0_1 < (s0_0.length : Int) := zI (by first | (with_reducible assumption) | assumption)
        obtain ⟨ad102, e102, hx102_0⟩ := Kd.at_int HSz11_0 s0_1 p102 q102
        cases e102
        replace hx102_0 := pw_cell_below HB.out hx102_0
        replace p102 := eq_true p102
        replace q102 := eq_true q102
        have p103 : 0 ≤ ((ji8) : Int) := zI (by first | (with_reducible assumption) | assumption)
        have q103 : (ji8) < (s0_0.length : Int) := zI (by first | (with_reducible assumption) | assumption)
        obtain ⟨ad103, e103, hx103_0⟩ := Kd.at_int HSz11_0 (ji8) p103 q103
        obtain rfl : ad102 = ad103 := (by injection e103)
        have hn103_0 : ad102.block ≠ g := Nat.ne_of_lt (Nat.lt_of_lt_of_le (by have := World.block_lt_of_cell? _ _ hx103_0; first | rwa [add_block] at this | exact this) (IsS137.ge HI0.out))
        replace hx103_0 := pw_cell_below HB.out hx103_0
        replace hx103_0 := (cell_far (p := ⟨g, 1, none⟩) (by first | (rw [add_block]; exact hn103_0) | (show (Addr.add _ _).block ≠ _; rw [add_block]; exact hn103_0) | exact hn103_0) (.int .i64 ji8)).trans hx103_0
        (try have hy103_0 := fun (n_ : Nat) => (show (((w.drewN n_).setCell ⟨g, 1, none⟩ (.int .i64 ji8))).cell? _ = some _ from hx103_0))
        clear hn103_0
        replace p103 := eq_true p103
        replace q103 := eq_true q103
        go_enter Try.func51, Try.ntmps51
        go_wp2
        repeat (go_quiet (fail); try go_wp2)
        go_ret
        exact ⟨by first | rfl | (simp [errW_none, errW_some] <;> rfl) | (simp only [← hji8]; first | rfl | (simp [errW_none, errW_some] <;> rfl)) | (simp [*, errW_none, errW_some] <;> rfl), by repeat (first | (with_reducible first | exact HI0.out | apply IsS137.alloc | apply IsS137.drewN | apply IsS137.drew | apply IsS137.set_1 | apply IsS137.set_2) | exact HI0.out), by repeat (first | (with_reducible first | exact HB.out | apply zC | apply zB | apply zF | refine zE ?_ (IsS137.ge HI0.out)) | exact HB.out), by repeat (first | (with_reducible first | exact HK.out | apply zZ | apply yA | apply yB | apply yC) | exact HK.out)⟩
      ·rw [if_neg c9] at H
       exact absurd H (by simp)
     ·rw [if_neg c7] at H
      have c7b0 : decide ((wrap64 (s0_1 + 1)) < (s0_0.length : Int)) = false := decide_eq_false c7
      clear c7
      by_cases c12 : a1 = 0
      ·rw [if_pos c12] at H
       exact absurd H (by simp)
      ·rw [if_neg c12] at H
       have c12b0 : (a1 == 0) = false := beq_eq_false_iff_ne.mpr c12
       have c12b1 : (a1 != 0) = true := bne_iff_ne.mpr c12
       simp only [Option.some.injEq, Prod.mk.injEq] at H
       obtain ⟨rfl, rfl, rfl⟩ := H
       obtain ⟨ASz13_0, cSz13_0, HGz13, hgz13, HSz13_0⟩ := HI0.out
       have hcz13_0 := cellS137_0 HGz13
       have hcz13_1 := cellS137_1 HGz13
       have hcz13_2 := cellS137_2 HGz13
       have hfz13_1 := zJ HGz13 1
       have hfz13_2 := zJ HGz13 2
       clear HGz13 hgz13
       have p102 : 0 ≤ (s0_1 : Int) := zI (by first | (with_reducible assumption) | assumption)
       have q102 : s0_1 < (s0_0.length : Int) := zI (by first | (with_reducible assumption) | assumption)
       obtain ⟨ad102, e102, hx102_0⟩ := Kd.at_int HSz13_0 s0_1 p102 q102
       cases e102
       replace hx102_0 := pw_cell_below HB.out hx102_0
       replace p102 := eq_true p102
       replace q102 := eq_true q102
       go_enter Try.func51, Try.ntmps51
       go_wp2
       repeat (go_quiet (fail); try go_wp2)
       go_ret
       exact ⟨by first | rfl | (simp [errW_none, errW_some] <;> rfl) | (simp [*, errW_none, errW_some] <;> rfl), by repeat (first | (with_reducible first | exact HI0.out | apply IsS137.alloc | apply IsS137.drewN | apply IsS137.drew | apply IsS137.set_1 | apply IsS137.set_2) | exact HI0.out), by repeat (first | (with_reducible first | exact HB.out | apply zC | apply zB | apply zF | refine zE ?_ (IsS137.ge HI0.out)) | exact HB.out), by repeat (first | (with_reducible first | exact HK.out | apply zZ | apply yA | apply yB | apply yC) | exact HK.out)⟩
    ·rw [if_neg c6] at H
     have c6b0 : decide (256 < a1) = false := decide_eq_false c6
     clear c6
     by_cases c14 : a1 = 0
     ·rw [if_pos c14] at H
      exact absurd H (by simp)
     ·rw [if_neg c14] at H
      have c14b0 : (a1 == 0) = false := beq_eq_false_iff_ne.mpr c14
      have c14b1 : (a1 != 0) = true := bne_iff_ne.mpr c14
      simp only [Option.some.injEq, Prod.mk.injEq] at H
      obtain ⟨rfl, rfl, rfl⟩ := H
      obtain ⟨ASz15_0, cSz15_0, HGz15, hgz15, HSz15_0⟩ := HI0.out
      have hcz15_0 := cellS137_0 HGz15
      have hcz15_1 := cellS137_1 HGz15
      have hcz15_2 := cellS137_2 HGz15
      have hfz15_1 := zJ HGz15 1
      have hfz15_2 := zJ HGz15 2
      clear HGz15 hgz15
      have p102 : 0 ≤ (s0_1 : Int) := zI (by first | (with_reducible assumption) | assumption)
      have q102 : s0_1 < (s0_0.length : Int) := zI (by first | (with_reducible assumption) | assumption)
      obtain ⟨ad102, e102, hx102_0⟩ := Kd.at_int HSz15_0 s0_1 p102 q102
      cases e102
      replace hx102_0 := pw_cell_below HB.out hx102_0
      replace p102 := eq_true p102
      replace q102 := eq_true q102
      go_enter Try.func51, Try.ntmps51
      go_wp2
      repeat (go_quiet (fail); try go_wp2)
      go_ret
      exact ⟨by first | rfl | (simp [errW_none, errW_some] <;> rfl) | (simp [*, errW_none, errW_some] <;> rfl), by repeat (first | (with_reducible first | exact HI0.out | apply IsS137.alloc | apply IsS137.drewN | apply IsS137.drew | apply IsS137.set_1 | apply IsS137.set_2) | exact HI0.out), by repeat (first | (with_reducible first | exact HB.out | apply zC | apply zB | apply zF | refine zE ?_ (IsS137.ge HI0.out)) | exact HB.out), by repeat (first | (with_reducible first | exact HK.out | apply zZ | apply yA | apply yB | apply yC) | exact HK.out)⟩
   ·rw [if_neg c5] at H
    exact absurd H (by simp)
  ·rw [if_neg c4] at H
   have c4b0 : decide (s0_1 < (s0_0.length : Int)) = false := decide_eq_false c4
   clear c4
   by_cases c16 : (s0_0.length : Int) > 0
   ·rw [if_pos c16] at H
    have c16b0 : decide (0 < (s0_0.length : Int)) = true := zT c16
    have c16b1 : decide (0 < s0_0.length) = true := zT (by omega)
    clear c16
    by_cases c17 : (s0_0.length : Int) = 0
    ·rw [if_pos c17] at H
     exact absurd H (by simp)
    ·rw [if_neg c17] at H
     have c17b0 : ((s0_0.length : Int) == 0) = false := beq_eq_false_iff_ne.mpr c17
     have c17b1 : ((s0_0.length : Int) != 0) = true := bne_iff_ne.mpr c17
     have c17b2 : ¬ (s0_0 = []) := fun h_ => c17 (by rw [h_]; rfl)
     obtain ⟨ji18, hji18⟩ : ∃ j_ : Int, (Int.tmod s0_1 (s0_0.length : Int)) = j_ := ⟨_, rfl⟩
     replace H : (if 0 ≤ (ji18) then (if (ji18) < (s0_0.length : Int) then (if a1 = 0 then (none) else (some (Int.tmod (wrap64 ((wrap64 (Int.tdiv (Int.tmod (wrap64 ((wrap64 (s0_2 * 1103)) + 12345)) 65521) 3)) + (wrap64 (rd s0_0 (ji18))))) a1, wrap64 (s0_1 + 1), Int.tmod (wrap64 ((wrap64 (s0_2 * 1103)) + 12345)) 65521))) else (none)) else (none)) = some (r1, r2, r3) := by first | (rw [hji18] at H; exact H) | (simp only [hji18] at H ⊢; exact H)
     by_cases c19 : 0 ≤ (ji18)
     ·rw [if_pos c19] at H
      have c19b0 : decide (0 ≤ (ji18)) = true := zT c19
      clear c19
      by_cases c20 : (ji18) < (s0_0.length : Int)
      ·rw [if_pos c20] at H
       have c20b0 : decide ((ji18) < (s0_0.length : Int)) = true := zT c20
       clear c20
       by_cases c21 : a1 = 0
       ·rw [if_pos c21] at H
        exact absurd H (by simp)
       ·rw [if_neg c21] at H
        have c21b0 : (a1 == 0) = false := beq_eq_false_iff_ne.mpr c21
        have c21b1 : (a1 != 0) = true := bne_iff_ne.mpr c21
        simp only [Option.some.injEq, Prod.mk.injEq] at H
        obtain ⟨rfl, rfl, rfl⟩ := H
        obtain ⟨ASz22_0, cSz22_0, HGz22, hgz22, HSz22_0⟩ := HI0.out
        have hcz22_0 := cellS137_0 HGz22
        have hcz22_1 := cellS137_1 HGz22
        have hcz22_2 := cellS137_2 HGz22
        have hfz22_1 := zJ HGz22 1
        have hfz22_2 := zJ HGz22 2
        clear HGz22 hgz22
        have p104 : 0 ≤ ((ji18) : Int) := zI (by first | (with_reducible assumption) | assumption)
        have q104 : (ji18) < (s0_0.length : Int) := zI (by first | (with_reducible assumption) | assumption)
        obtain ⟨ad104, e104, hx104_0⟩ := Kd.at_int HSz22_0 (ji18) p104 q104
        cases e104
        have hn104_0 : ad104.block ≠ g := Nat.ne_of_lt (Nat.lt_of_lt_of_le (by have := World.block_lt_of_cell? _ _ hx104_0; first | rwa [add_block] at this | exact this) (IsS137.ge HI0.out))
        replace hx104_0 := pw_cell_below HB.out hx104_0
        replace hx104_0 := (cell_far (p := ⟨g, 2, none⟩) (by first | (rw [add_block]; exact hn104_0) | (show (Addr.add _ _).block ≠ _; rw [add_block]; exact hn104_0) | exact hn104_0) (.int .i64 (Int.tmod (wrap64 ((wrap64 (s0_2 * 1103)) + 12345)) 65521))).trans hx104_0
        (try have hy104_0 := fun (n_ : Nat) => (show (((w.drewN n_).setCell ⟨g, 2, none⟩ (.int .i64 (Int.tmod (wrap64 ((wrap64 (s0_2 * 1103)) + 12345)) 65521)))).cell? _ = some _ from hx104_0))
        clear hn104_0
        replace p104 := eq_true p104
        replace q104 := eq_true q104
        go_enter Try.func51, Try.ntmps51
        go_wp2
        repeat (go_quiet (fail); try go_wp2)
        go_ret
        exact ⟨by first | rfl | (simp [errW_none, errW_some] <;> rfl) | (simp only [← hji18]; first | rfl | (simp [errW_none, errW_some] <;> rfl)) | (simp [*, errW_none, errW_some] <;> rfl), by repeat (first | (with_reducible first | exact HI0.out | apply IsS137.alloc | apply IsS137.drewN | apply IsS137.drew | apply IsS137.set_1 | apply IsS137.set_2) | exact HI0.out), by repeat (first | (with_reducible first | exact HB.out | apply zC | apply zB | apply zF | refine zE ?_ (IsS137.ge HI0.out)) | exact HB.out), by repeat (first | (with_reducible first | exact HK.out | apply zZ | apply yA | apply yB | apply yC) | exact HK.out)⟩
      ·rw [if_neg c20] at H
       exact absurd H (by simp)
     ·rw [if_neg c19] at H
      exact absurd H (by simp)
   ·rw [if_neg c16] at H
    have c16b0 : decide (0 < (s0_0.length : Int)) = false := decide_eq_false c16
    have c16b1 : decide (0 < s0_0.length) = false := decide_eq_false (by omega)
    clear c16
    by_cases c23 : a1 = 0
    ·rw [if_pos c23] at H
     exact absurd H (by simp)
    ·rw [if_neg c23] at H
     have c23b0 : (a1 == 0) = false := beq_eq_false_iff_ne.mpr c23
     have c23b1 : (a1 != 0) = true := bne_iff_ne.mpr c23
     simp only [Option.some.injEq, Prod.mk.injEq] at H
     obtain ⟨rfl, rfl, rfl⟩ := H
     obtain ⟨ASz24_0, cSz24_0, HGz24, hgz24, HSz24_0⟩ := HI0.out
     have hcz24_0 := cellS137_0 HGz24
     have hcz24_1 := cellS137_1 HGz24
     have hcz24_2 := cellS137_2 HGz24
     have hfz24_1 := zJ HGz24 1
     have hfz24_2 := zJ HGz24 2
     clear HGz24 hgz24
     go_enter Try.func51, Try.ntmps51
     go_wp2
     repeat (go_quiet (fail); try go_wp2)
     go_ret
     exact ⟨by first | rfl | (simp [errW_none, errW_some] <;> rfl) | (simp [*, errW_none, errW_some] <;> rfl), by repeat (first | (with_reducible first | exact HI0.out | apply IsS137.alloc | apply IsS137.drewN | apply IsS137.drew | apply IsS137.set_1 | apply IsS137.set_2) | exact HI0.out), by repeat (first | (with_reducible first | exact HB.out | apply zC | apply zB | apply zF | refine zE ?_ (IsS137.ge HI0.out)) | exact HB.out), by repeat (first | (with_reducible first | exact HK.out | apply zZ | apply yA | apply yB | apply yC) | exact HK.out)⟩
/-- a byte, or a nought beyond -/
theorem rd_byte (c : List Int) (hc : ∀ x ∈ c, 0 ≤ x ∧ x ≤ 255) (i : Int) : 0 ≤ rd c i ∧ rd c i ≤ 255 := by
 unfold rd
 rcases Nat.lt_or_ge i.toNat c.length with h | h
 ·rw [List.getD_eq_getElem?_getD, List.getElem?_eq_getElem h, Option.getD_some]
  exact hc _ (List.getElem_mem h)
 ·rw [List.getD_eq_getElem?_getD, List.getElem?_eq_none h, Option.getD_none]
  omega
theorem spec_l01Cur_pick.val (c : List Int) (hc : ∀ x ∈ c, 0 ≤ x ∧ x ≤ 255) (hl : c.length ≤ 1048576) (a s n : Int) (ha : 0 ≤ a) (ha2 : a ≤ 1000000000000) (hs0 : 0 ≤ s) (hs1 : s ≤ 65536) :
  ∃ x a' s', spec_l01Cur_pick.f c a s n = some (x, a', s') ∧ 0 ≤ x ∧ (x < n ∨ (n < 2 ∧ x = 0)) ∧ a ≤ a' ∧ a' ≤ a + 2 ∧ 0 ≤ s' ∧ s' ≤ 65536 := by
 unfold spec_l01Cur_pick.f
 by_cases h2 : n < 2
 ·rw [if_pos h2]
  exact ⟨0, a, s, rfl, by omega, by omega, by omega, by omega, by omega, by omega⟩
 ·rw [if_neg h2]
  have tm : ∀ x : Int, 0 ≤ x → 0 ≤ Int.tmod x n ∧ Int.tmod x n < n := fun x hx => ⟨Int.tmod_nonneg _ hx, Int.tmod_lt_of_pos _ (by omega)⟩
  have n0 : ¬ n = 0 := by omega
  have b1 := rd_byte c hc a
  have b2 := rd_byte c hc (a + 1)
  rw [wrap_in (a + 1) (by omega) (by omega)]
  by_cases h3 : a < c.length
  ·rw [if_pos h3, if_pos ha, wrap_in (rd c a) (by omega) (by omega), wrap_in (256 * rd c a) (by omega) (by omega), wrap_in (rd c (a + 1)) (by omega) (by omega), wrap_in (256 * rd c a + rd c (a + 1)) (by omega) (by omega), wrap_in (a + 1 + 1) (by omega) (by omega), if_neg n0, if_neg n0]
   have t1 := tm (256 * rd c a + rd c (a + 1)) (by omega)
   have t2 := tm (rd c a) (by omega)
   by_cases h4 : n > 256
   ·rw [if_pos h4]
    by_cases h5 : a + 1 < c.length
    ·rw [if_pos h5, if_pos (by omega)]
     exact ⟨_, _, _, rfl, t1.1, .inl t1.2, by omega, by omega, by omega, by omega⟩
    ·rw [if_neg h5]
     exact ⟨_, _, _, rfl, t2.1, .inl t2.2, by omega, by omega, by omega, by omega⟩
   ·rw [if_neg h4]
    exact ⟨_, _, _, rfl, t2.1, .inl t2.2, by omega, by omega, by omega, by omega⟩
  ·rw [if_neg h3, wrap_in (s * 1103) (by omega) (by omega), wrap_in (s * 1103 + 12345) (by omega) (by omega)]
   have q0 : 0 ≤ Int.tmod (s * 1103 + 12345) 65521 := Int.tmod_nonneg _ (by omega)
   have q1 : Int.tmod (s * 1103 + 12345) 65521 < 65521 := Int.tmod_lt_of_pos _ (by omega)
   generalize Int.tmod (s * 1103 + 12345) 65521 = s' at q0 q1 ⊢
   have q2 : 0 ≤ Int.tdiv s' 3 := Int.tdiv_nonneg q0 (by omega)
   have q3 : Int.tdiv s' 3 ≤ s' := Int.tdiv_le_self _ q0
   generalize Int.tdiv s' 3 = z at q2 q3 ⊢
   rw [wrap_in z (by omega) (by omega), if_neg n0, if_neg n0]
   by_cases h6 : (c.length : Int) > 0
   ·have t3 : 0 ≤ Int.tmod a c.length ∧ Int.tmod a c.length < c.length := ⟨Int.tmod_nonneg _ ha, Int.tmod_lt_of_pos _ h6⟩
    have b3 := rd_byte c hc (Int.tmod a c.length)
    rw [if_pos h6, if_neg (by omega), if_pos t3.1, if_pos t3.2, wrap_in (rd c (Int.tmod a c.length)) (by omega) (by omega), wrap_in (z + rd c (Int.tmod a c.length)) (by omega) (by omega)]
    have t4 := tm (z + rd c (Int.tmod a c.length)) (by omega)
    exact ⟨_, _, _, rfl, t4.1, .inl t4.2, by omega, by omega, by omega, by omega⟩
   ·rw [if_neg h6]
    have t4 := tm z q2
    exact ⟨_, _, _, rfl, t4.1, .inl t4.2, by omega, by omega, by omega, by omega⟩
end Go.Proofs.Ytilimpjcdeeaiaa.G


namespace Go.Proofs.Ytilimpjcdeeaiaa.G
open Go.RowKit Go.Proofs.YtilimpjcdeeaiaaW.PrintWords Go.Proofs.YtilimpjcdeeaiaaW.PrintLast Go.Proofs.YtilimpjcdeeaiaaW.PrintMore
attribute [local go_sem] max2_int min2_int max_two min_two max_three min_three max_four min_four   -- for this text's walks alone
def spec_l01Cur_odd.f (s0_0 : List Int) (s0_1 : Int) (s0_2 : Int) : Option (Int × Int × Int) := (some (([(-1), 0, 1, 2, 255, 256, 65535, 9223372036854775807, (-9223372036854775808), 17, 8, 12] : List Int) : List Int)).bind fun y108 => ((spec_l01Cur_pick.f s0_0 s0_1 s0_2 12).bind fun bt111 => (if 0 ≤ bt111.1 then (if bt111.1 < (y108.length : Int) then (some (rd y108 bt111.1, bt111.2.1, bt111.2.2)) else (none)) else (none)))
set_option maxHeartbeats 8000000 in
set_option maxRecDepth 100000 in
theorem spec_l01Cur_odd.calls (g : Nat) (s0_0 : List Int) (s0_1 : Int) (s0_2 : Int) (r1 : Int) (r2 : Int) (r3 : Int) (w0 w : World) (hI : IsS137 w0 w g s0_0 s0_1 s0_2) (hB : Below w0.heap.size w0 w) (h : spec_l01Cur_odd.f s0_0 s0_1 s0_2 = some (r1, r2, r3)) :
  Calls Try.prog 105 #[.pointer (some ⟨g, 0, none⟩)] w fun e w' => e = .returned (.int .i64 r1) ∧ IsS137 w0 w' g s0_0 r2 r3 ∧ Below w0.heap.size w0 w' ∧ KeepBut w w' g none := by
 have HI0 := zA hI
 have HK := zA (KeepBut.refl w g none)
 have HL := zA hB.size
 clear hI
 have HW0 := zA hB.size
 have HB := zA hB
 clear hB
 have H : ((some (([(-1), 0, 1, 2, 255, 256, 65535, 9223372036854775807, (-9223372036854775808), 17, 8, 12] : List Int) : List Int)).bind fun y108 => ((spec_l01Cur_pick.f s0_0 s0_1 s0_2 12).bind fun bt111 => (if 0 ≤ bt111.1 then (if bt111.1 < (y108.length : Int) then (some (rd y108 bt111.1, bt111.2.1, bt111.2.2)) else (none)) else (none)))) = some (r1, r2, r3) := h
 clear h
 obtain ⟨y108, hy108⟩ : ∃ y_ : List Int, y_ = (([(-1), 0, 1, 2, 255, 256, 65535, 9223372036854775807, (-9223372036854775808), 17, 8, 12] : List Int)) := ⟨_, rfl⟩
 replace H : ((spec_l01Cur_pick.f s0_0 s0_1 s0_2 12).bind fun bt111 => (if 0 ≤ bt111.1 then (if bt111.1 < (y108.length : Int) then (some (rd y108 bt111.1, bt111.2.1, bt111.2.2)) else (none)) else (none))) = some (r1, r2, r3) := by first | (rw [hy108]; with_reducible exact H) | (have H2_ := (zS _ _).symm.trans H; rw [hy108]; with_reducible exact H2_) | (have H2_ := (zS _ _).symm.trans H; with_reducible exact H2_) | with_reducible exact H | (rw [hy108]; exact H) | exact H
 have Ny108 := zA hy108
 clear hy108
 replace H := Option.bind_eq_some_iff.mp H
 obtain ⟨⟨t111, t112, t113⟩, A20, H⟩ := H
 replace H : (if 0 ≤ t111 then (if t111 < (y108.length : Int) then (some (rd y108 t111, t112, t113)) else (none)) else (none)) = some (r1, r2, r3) := H
 have A2 := zA A20
 clear A20
 by_cases c3 : 0 ≤ t111
 ·rw [if_pos c3] at H
  have c3b0 : decide (0 ≤ t111) = true := zT c3
  clear c3
  by_cases c4 : t111 < (y108.length : Int)
  ·rw [if_pos c4] at H
   have c4b0 : decide (t111 < (y108.length : Int)) = true := zT c4
   clear c4
   simp only [Option.some.injEq, Prod.mk.injEq] at H
   obtain ⟨rfl, rfl, rfl⟩ := H
   go_enter Try.func105, Try.ntmps105
   go_wp2_with (first | ((with_reducible refine gate_dst (N := 3) rfl ?_); refine Kd.R_lit (Kd.int .i64) _ 3 ?hg (N := 3) ?hd (xs := ([(-1), 0, 1, 2, 255, 256, 65535, 9223372036854775807, (-9223372036854775808), 17, 8, 12] : List Int)) (inner := [.int .i64 (-1), .int .i64 0, .int .i64 1, .int .i64 2, .int .i64 255, .int .i64 256, .int .i64 65535, .int .i64 9223372036854775807, .int .i64 (-9223372036854775808), .int .i64 17, .int .i64 8, .int .i64 12]) (ok := fun _ => True) (okp := fun _ => True) ?hr ?hp (fun _ hk => hk) trivial (Below.refl _ _) (Nat.le_refl _) (by simp) ?_; (case hd => rfl); (case hg => rfl); (case hr => first | (go_simp; done) | (go_simp; rfl)); (case hp => exact (Reps.one (show Kd.M (Kd.int .i64) _ _ _ (-1) [.int .i64 (-1)] from rfl) (Reps.one (show Kd.M (Kd.int .i64) _ _ _ 0 [.int .i64 0] from rfl) (Reps.one (show Kd.M (Kd.int .i64) _ _ _ 1 [.int .i64 1] from rfl) (Reps.one (show Kd.M (Kd.int .i64) _ _ _ 2 [.int .i64 2] from rfl) (Reps.one (show Kd.M (Kd.int .i64) _ _ _ 255 [.int .i64 255] from rfl) (Reps.one (show Kd.M (Kd.int .i64) _ _ _ 256 [.int .i64 256] from rfl) (Reps.one (show Kd.M (Kd.int .i64) _ _ _ 65535 [.int .i64 65535] from rfl) (Reps.one (show Kd.M (Kd.int .i64) _ _ _ 9223372036854775807 [.int .i64 9223372036854775807] from rfl) (Reps.one (show Kd.M (Kd.int .i64) _ _ _ (-9223372036854775808) [.int .i64 (-9223372036854775808)] from rfl) (Reps.one (show Kd.M (Kd.int .i64) _ _ _ 17 [.int .i64 17] from rfl) (Reps.one (show Kd.M (Kd.int .i64) _ _ _ 8 [.int .i64 8] from rfl) (Reps.one (show Kd.M (Kd.int .i64) _ _ _ 12 [.int .i64 12] from rfl) (Reps.none _ _)))))))))))))); intro v109 w5 ho6 hb hg_ hnew_; clear hg_ hnew_; (first | rw [← Ny108.out] at ho6 | (simp only [Int.reduceToNat] at ho6; rw [← Ny108.out] at ho6)); have n0_ := zA (Kd.R_lower ho6 (keep_size (w := w) (g := g) (row := none) (by repeat (first | (with_reducible first | exact HK.out | apply zZ | apply yA | apply yB | apply yC) | exact HK.out)))); have n1_ := zA (IsS137.below (by repeat (first | (with_reducible first | exact HI0.out | apply IsS137.alloc | apply IsS137.drewN | apply IsS137.drew | apply IsS137.set_1 | apply IsS137.set_2) | exact HI0.out)) hb); have n2_ := zA (KeepBut.trans (by repeat (first | (with_reducible first | exact HK.out | apply zZ | apply yA | apply yB | apply yC) | exact HK.out)) (KeepBut.of_below hb g none) (.inl rfl)); have n3_ := zA (below_step (by repeat (first | (with_reducible first | exact HB.out | apply zC | apply zB | apply zF | refine zE ?_ (IsS137.ge HI0.out)) | exact HB.out)) hb); clear HI0; clear HK; clear HB; have HO110 := n0_; have HI0 := n1_; have HK := n2_; have HB := n3_; clear n0_ n1_ n2_ n3_; clear hb ho6) | ((with_reducible refine gate_callee (f := 51) rfl ?_); refine goesL_ (some 5) rfl rfl Try.func51 (by kernel_rfl) rfl #[.pointer (some ⟨g, 0, none⟩), .int .i64 12] rfl (by (try simp only [zU, zV, zW]); first | done | rfl | (simp only [zR, zQ]; rfl)) ?_; (with_reducible refine (spec_l01Cur_pick.calls g s0_0 s0_1 s0_2 12 t111 t112 t113 w0 _ ?side1 ?side2 A2.out).mono ?_); (case side1 => repeat (first | (with_reducible first | exact HI0.out | apply IsS137.alloc | apply IsS137.drewN | apply IsS137.drew | apply IsS137.set_1 | apply IsS137.set_2) | exact HI0.out)); (case side2 => repeat (first | (with_reducible first | exact HB.out | apply zC | apply zB | apply zF | refine zE ?_ (IsS137.ge HI0.out)) | exact HB.out)); rintro e w7 ⟨rfl, hi, hb, hk⟩; refine ⟨_, rfl, ?_⟩; have n0_ := zA (zP (Kd.R_keep (IsS137.apart (show IsS137 w0 _ g s0_0 s0_1 s0_2 from by repeat (first | (with_reducible first | exact HI0.out | apply IsS137.alloc | apply IsS137.drewN | apply IsS137.drew | apply IsS137.set_1 | apply IsS137.set_2) | exact HI0.out)) (by (with_reducible repeat (first | apply zN | apply zM | apply zO)); exact HO110.out) (by decide)) hk (fun _ h => h.2)) (fun _ h => h.1)); have n1_ := zA (KeepBut.trans (by repeat (first | (with_reducible first | exact HK.out | apply zZ | apply yA | apply yB | apply yC) | exact HK.out)) hk (.inl rfl)); have n2_ := zA (hb); have n3_ := zA (hi); clear HO110; clear HK; clear HB; clear HI0; have HO110 := n0_; have HK := n1_; have HB := n2_; have HI0 := n3_; clear n0_ n1_ n2_ n3_; (try clear hb); (try clear hb2); (try clear hk); (try clear hi); obtain ⟨Ao8, co8, eo8⟩ := Kd.R_slice HO110.out; subst eo8; have p114 : 0 ≤ (t111 : Int) := zI (by first | (with_reducible assumption) | assumption); have q114 : t111 < (y108.length : Int) := zI (by first | (with_reducible assumption) | assumption); obtain ⟨ad114, e114, hx114_0⟩ := Kd.at_int (yK HO110.out).2.2 t111 p114 q114; cases e114; replace p114 := eq_true p114; replace q114 := eq_true q114))
   go_ret
   exact ⟨by first | rfl | (simp [errW_none, errW_some] <;> rfl) | (simp [*, errW_none, errW_some] <;> rfl), by repeat (first | (with_reducible first | exact HI0.out | apply IsS137.alloc | apply IsS137.drewN | apply IsS137.drew | apply IsS137.set_1 | apply IsS137.set_2) | exact HI0.out), by repeat (first | (with_reducible first | exact HB.out | apply zC | apply zB | apply zF | refine zE ?_ (IsS137.ge HI0.out)) | exact HB.out), by repeat (first | (with_reducible first | exact HK.out | apply zZ | apply yA | apply yB | apply yC) | exact HK.out)⟩
  ·rw [if_neg c4] at H
   exact absurd H (by simp)
 ·rw [if_neg c3] at H
  exact absurd H (by simp)
theorem spec_l01Cur_odd.val (c : List Int) (hc : ∀ x ∈ c, 0 ≤ x ∧ x ≤ 255) (hl : c.length ≤ 1048576) (a s : Int) (ha : 0 ≤ a) (ha2 : a ≤ 1000000000000) (hs0 : 0 ≤ s) (hs1 : s ≤ 65536) :
  ∃ x a' s', spec_l01Cur_odd.f c a s = some (x, a', s') ∧ -9223372036854775808 ≤ x ∧ x ≤ 9223372036854775807 ∧ a ≤ a' ∧ a' ≤ a + 2 ∧ 0 ≤ s' ∧ s' ≤ 65536 := by
 unfold spec_l01Cur_odd.f
 obtain ⟨x, a', s', e, h1, h2, h3, h4, h5, h6⟩ := spec_l01Cur_pick.val c hc hl a s 12 ha ha2 hs0 hs1
 rw [zS, e]
 simp only [zS]
 rw [if_pos h1, if_pos (by simp; omega)]
 refine ⟨_, a', s', rfl, ?_, ?_, h3, h4, h5, h6⟩ <;>
 ·have : x = 0 ∨ x = 1 ∨ x = 2 ∨ x = 3 ∨ x = 4 ∨ x = 5 ∨ x = 6 ∨ x = 7 ∨ x = 8 ∨ x = 9 ∨ x = 10 ∨ x = 11 := by omega
  rcases this with h | h | h | h | h | h | h | h | h | h | h | h <;> subst h <;> decide
end Go.Proofs.Ytilimpjcdeeaiaa.G


namespace Go.Proofs.Ytilimpjcdeeaiaa.G
open Go.RowKit Go.Proofs.YtilimpjcdeeaiaaW.PrintWords Go.Proofs.YtilimpjcdeeaiaaW.PrintLast Go.Proofs.YtilimpjcdeeaiaaW.PrintMore
attribute [local go_sem] max2_int min2_int max_two min_two max_three min_three max_four min_four   -- for this text's walks alone
def spec_l01Cur_size.f (s0_0 : List Int) (s0_1 : Int) (s0_2 : Int) (a1 : Int) : Option (Int × Int × Int) := if (wrap64 (1 + (wrap64 ((s0_0.length : Int) / 10)))) > a1 then ((spec_l01Cur_pick.f s0_0 s0_1 s0_2 (wrap64 (a1 + 1))).bind fun bt377 => (some (bt377.1, bt377.2.1, bt377.2.2))) else ((spec_l01Cur_pick.f s0_0 s0_1 s0_2 (wrap64 ((wrap64 (1 + (wrap64 ((s0_0.length : Int) / 10)))) + 1))).bind fun bt380 => (some (bt380.1, bt380.2.1, bt380.2.2)))
end Go.Proofs.Ytilimpjcdeeaiaa.G


namespace Go.Proofs.Ytilimpjcdeeaiaa.G
open Go.RowKit Go.Proofs.YtilimpjcdeeaiaaW.PrintWords Go.Proofs.YtilimpjcdeeaiaaW.PrintLast Go.Proofs.YtilimpjcdeeaiaaW.PrintMore
attribute [local go_sem] max2_int min2_int max_two min_two max_three min_three max_four min_four   -- for this text's walks alone
def spec_l01Cur_once.f (s0_0 : List Int) (s0_1 : Int) (s0_2 : Int) (a1 : Int) : Option (Bool × Int × Int) := (spec_l01Cur_pick.f s0_0 s0_1 s0_2 a1).bind fun bt105 => (some ((bt105.1 == (wrap64 (a1 - 1))), bt105.2.1, bt105.2.2))
set_option maxHeartbeats 8000000 in
set_option maxRecDepth 100000 in
theorem spec_l01Cur_once.calls (g : Nat) (s0_0 : List Int) (s0_1 : Int) (s0_2 : Int) (a1 : Int) (r1 : Bool) (r2 : Int) (r3 : Int) (w0 w : World) (hI : IsS137 w0 w g s0_0 s0_1 s0_2) (hB : Below w0.heap.size w0 w) (h : spec_l01Cur_once.f s0_0 s0_1 s0_2 a1 = some (r1, r2, r3)) :
  Calls Try.prog 49 #[.pointer (some ⟨g, 0, none⟩), .int .i64 a1] w fun e w' => e = .returned (.bool r1) ∧ IsS137 w0 w' g s0_0 r2 r3 ∧ Below w0.heap.size w0 w' ∧ KeepBut w w' g none := by
 have HI0 := zA hI
 have HK := zA (KeepBut.refl w g none)
 have HL := zA hB.size
 clear hI
 have HW0 := zA hB.size
 have HB := zA hB
 clear hB
 have H : ((spec_l01Cur_pick.f s0_0 s0_1 s0_2 a1).bind fun bt105 => (some ((bt105.1 == (wrap64 (a1 - 1))), bt105.2.1, bt105.2.2))) = some (r1, r2, r3) := h
 clear h
 replace H := Option.bind_eq_some_iff.mp H
 obtain ⟨⟨t105, t106, t107⟩, A30, H⟩ := H
 replace H : (some ((t105 == (wrap64 (a1 - 1))), t106, t107)) = some (r1, r2, r3) := H
 have A3 := zA A30
 clear A30
 simp only [Option.some.injEq, Prod.mk.injEq] at H
 obtain ⟨rfl, rfl, rfl⟩ := H
 go_enter Try.func49, Try.ntmps49
 go_wp2_with (first | ((with_reducible refine gate_callee (f := 51) rfl ?_); refine goesL_ (some 7) rfl rfl Try.func51 (by kernel_rfl) rfl #[.pointer (some ⟨g, 0, none⟩), .int .i64 a1] rfl (by (try simp only [zU, zV, zW]); first | done | rfl | (simp only [zR, zQ]; rfl)) ?_; (with_reducible refine (spec_l01Cur_pick.calls g s0_0 s0_1 s0_2 a1 t105 t106 t107 w0 _ ?side1 ?side2 A3.out).mono ?_); (case side1 => repeat (first | (with_reducible first | exact HI0.out | apply IsS137.alloc | apply IsS137.drewN | apply IsS137.drew | apply IsS137.set_1 | apply IsS137.set_2) | exact HI0.out)); (case side2 => repeat (first | (with_reducible first | exact HB.out | apply zC | apply zB | apply zF | refine zE ?_ (IsS137.ge HI0.out)) | exact HB.out)); rintro e w4 ⟨rfl, hi, hb, hk⟩; refine ⟨_, rfl, ?_⟩; have n0_ := zA (KeepBut.trans (by repeat (first | (with_reducible first | exact HK.out | apply zZ | apply yA | apply yB | apply yC) | exact HK.out)) hk (.inl rfl)); have n1_ := zA (hb); have n2_ := zA (hi); clear HK; clear HB; clear HI0; have HK := n0_; have HB := n1_; have HI0 := n2_; clear n0_ n1_ n2_; (try clear hb); (try clear hb2); (try clear hk); (try clear hi)))
 go_ret
 exact ⟨by first | rfl | (simp [errW_none, errW_some] <;> rfl) | (simp [*, errW_none, errW_some] <;> rfl), by repeat (first | (with_reducible first | exact HI0.out | apply IsS137.alloc | apply IsS137.drewN | apply IsS137.drew | apply IsS137.set_1 | apply IsS137.set_2) | exact HI0.out), by repeat (first | (with_reducible first | exact HB.out | apply zC | apply zB | apply zF | refine zE ?_ (IsS137.ge HI0.out)) | exact HB.out), by repeat (first | (with_reducible first | exact HK.out | apply zZ | apply yA | apply yB | apply yC) | exact HK.out)⟩
theorem spec_l01Cur_once.val (c : List Int) (hc : ∀ x ∈ c, 0 ≤ x ∧ x ≤ 255) (hl : c.length ≤ 1048576) (a s n : Int) (ha : 0 ≤ a) (ha2 : a ≤ 1000000000000) (hs0 : 0 ≤ s) (hs1 : s ≤ 65536) :
  ∃ b a' s', spec_l01Cur_once.f c a s n = some (b, a', s') ∧ a ≤ a' ∧ a' ≤ a + 2 ∧ 0 ≤ s' ∧ s' ≤ 65536 := by
 unfold spec_l01Cur_once.f
 obtain ⟨x, a', s', e, h1, h2, h3, h4, h5, h6⟩ := spec_l01Cur_pick.val c hc hl a s n ha ha2 hs0 hs1
 rw [e]
 exact ⟨_, a', s', rfl, h3, h4, h5, h6⟩
end Go.Proofs.Ytilimpjcdeeaiaa.G


namespace Go.Proofs.Ytilimpjcdeeaiaa.G
open Go.RowKit Go.Proofs.YtilimpjcdeeaiaaW.PrintWords Go.Proofs.YtilimpjcdeeaiaaW.PrintLast Go.Proofs.YtilimpjcdeeaiaaW.PrintMore
attribute [local go_sem] max2_int min2_int max_two min_two max_three min_three max_four min_four   -- for this text's walks alone
def EvP {α : Type} (g : Nat → Option α) (P : α → Prop) : Prop := ∃ r, Ev g r ∧ P r
theorem EvP.now {α : Type} {P : α → Prop} {r : α} (h : P r) : EvP (fun _ => some r) P := ⟨r, Ev.now r, h⟩
theorem EvP.ip {α : Type} {P : α → Prop} {c : Prop} [Decidable c] {g f : Nat → Option α} (hc : c) (h : EvP g P) : EvP (fun n => if c then g n else f n) P := by
 obtain ⟨r, h1, h2⟩ := h
 exact ⟨r, Ev.ip hc h1, h2⟩
theorem EvP.ng {α : Type} {P : α → Prop} {c : Prop} [Decidable c] {g f : Nat → Option α} (hc : ¬ c) (h : EvP f P) : EvP (fun n => if c then g n else f n) P := by
 obtain ⟨r, h1, h2⟩ := h
 exact ⟨r, Ev.ng hc h1, h2⟩
theorem EvP.either {α : Type} {P : α → Prop} {c : Prop} [Decidable c] {g f : Nat → Option α} (h1 : c → EvP g P) (h2 : ¬ c → EvP f P) : EvP (fun n => if c then g n else f n) P := by
 by_cases hc : c
 ·exact EvP.ip hc (h1 hc)
 ·exact EvP.ng hc (h2 hc)
theorem EvP.step {α : Type} {P : α → Prop} {g f : Nat → Option α} (h : ∀ k, g (k + 1) = f k) (hf : EvP f P) : EvP g P := by
 obtain ⟨r, h1, h2⟩ := hf
 exact ⟨r, Ev.step h h1, h2⟩
theorem EvP.bind {α β : Type} {Q : α → Prop} {P : β → Prop} {g : Nat → Option α} {f : Nat → α → Option β} (h : EvP g Q) (k : ∀ a, Q a → EvP (fun n => f n a) P) : EvP (fun n => (g n).bind (f n)) P := by
 obtain ⟨a, h1, h2⟩ := h
 obtain ⟨r, h3, h4⟩ := k a h2
 exact ⟨r, Ev.bind h1 h3, h4⟩
theorem EvP.some {α β : Type} {P : β → Prop} {a : α} {f : Nat → α → Option β} (k : EvP (fun n => f n a) P) : EvP (fun n => (Option.some a).bind (f n)) P := by
 obtain ⟨r, h3, h4⟩ := k
 exact ⟨r, Ev.bind (Ev.c rfl) h3, h4⟩
theorem EvP.val {α β : Type} {P : β → Prop} {x : Option α} {a : α} {f : Nat → α → Option β} (h : x = Option.some a) (k : EvP (fun n => f n a) P) : EvP (fun n => x.bind (f n)) P := by
 obtain ⟨r, h3, h4⟩ := k
 exact ⟨r, Ev.bind (Ev.c h) h3, h4⟩
theorem EvP.mono {α : Type} {P Q : α → Prop} {g : Nat → Option α} (h : EvP g P) (hq : ∀ a, P a → Q a) : EvP g Q := by
 obtain ⟨r, h1, h2⟩ := h
 exact ⟨r, h1, hq r h2⟩
theorem EvP.of {α : Type} {P : α → Prop} {g : Nat → Option α} {r : α} (h : Ev g r) (hp : P r) : EvP g P := ⟨r, h, hp⟩
/-- the cursor, at place a of m at most -/
structure CurAt (c : List Int) (m : Nat) (a s : Int) : Prop where
 b : ∀ x ∈ c, 0 ≤ x ∧ x ≤ 255
 l : c.length ≤ 1048576
 a0 : 0 ≤ a
 a1 : a ≤ m
 s0 : 0 ≤ s
 s1 : s ≤ 65536
theorem CurAt.up {c : List Int} {m m' : Nat} {a s : Int} (h : CurAt c m a s) (hm : m ≤ m') : CurAt c m' a s := ⟨h.b, h.l, h.a0, by have := h.a1; omega, h.s0, h.s1⟩
theorem CurAt.pick {c : List Int} {m : Nat} {a s : Int} (h : CurAt c m a s) (hm : m ≤ 1000000000000) (n : Int) {β : Type} {P : β → Prop} {f : Nat → Int × Int × Int → Option β}
  (k : ∀ x a' s' : Int, 0 ≤ x → (x < n ∨ (n < 2 ∧ x = 0)) → CurAt c (m + 2) a' s' → EvP (fun q => f q (x, a', s')) P) : EvP (fun q => (spec_l01Cur_pick.f c a s n).bind (f q)) P := by
 have ha := h.a1
 obtain ⟨x, a', s', e, h1, h2, h3, h4, h5, h6⟩ := spec_l01Cur_pick.val c h.b h.l a s n h.a0 (by omega) h.s0 h.s1
 exact EvP.val e (k x a' s' h1 h2 ⟨h.b, h.l, by have := h.a0; omega, by omega, h5, h6⟩)
end Go.Proofs.Ytilimpjcdeeaiaa.G


namespace Go.Proofs.Ytilimpjcdeeaiaa.G
open Go.RowKit Go.Proofs.YtilimpjcdeeaiaaW.PrintWords Go.Proofs.YtilimpjcdeeaiaaW.PrintLast Go.Proofs.YtilimpjcdeeaiaaW.PrintMore
attribute [local go_sem] max2_int min2_int max_two min_two max_three min_three max_four min_four   -- for this text's walks alone
mutual
def spec_l12DrawScript.l0 : Nat → List (S38) → Int → List Int → Int → Int → Int → Int → Int → Int → List (S102) → Option ((List (S38)) × Int × Int)
 | 0, _, _, _, _, _, _, _, _, _, _ => none
 | k + 1, x5, x6, x1000, x1001, x1002, x195000, x195001, x195002, x195003, x195004 => if x6 < (x195004.length : Int) then (spec_l12DrawScript.l1 k x5 x6 0 x1000 x1001 x1002 x195000 x195001 x195002 x195003 x195004) else (some (x5, x1001, x1002))
def spec_l12DrawScript.l1 : Nat → List (S38) → Int → Int → List Int → Int → Int → Int → Int → Int → Int → List (S102) → Option ((List (S38)) × Int × Int)
 | 0, _, _, _, _, _, _, _, _, _, _, _ => none
 | k + 1, x5, x6, x7, x1000, x1001, x1002, x195000, x195001, x195002, x195003, x195004 => if x7 < 64 then ((spec_l01Cur_pick.f x1000 x1001 x1002 64).bind fun bt207 => (if (wrap64 (x7 + bt207.1)) > 63 then (spec_l12DrawScript.j2 k x5 x6 x7 63 x1000 bt207.2.1 bt207.2.2 x195000 x195001 x195002 x195003 x195004) else (spec_l12DrawScript.j2 k x5 x6 x7 (wrap64 (x7 + bt207.1)) x1000 bt207.2.1 bt207.2.2 x195000 x195001 x195002 x195003 x195004))) else (spec_l12DrawScript.l0 k x5 (wrap64 (x6 + 1)) x1000 x1001 x1002 x195000 x195001 x195002 x195003 x195004)
def spec_l12DrawScript.j2 : Nat → List (S38) → Int → Int → Int → List Int → Int → Int → Int → Int → Int → Int → List (S102) → Option ((List (S38)) × Int × Int)
 | 0, _, _, _, _, _, _, _, _, _, _, _, _ => none
 | k + 1, x5, x6, x7, x8, x1000, x1001, x1002, x195000, x195001, x195002, x195003, x195004 => (spec_l01Cur_pick.f x1000 x1001 x1002 3).bind fun bt210 => (if x5.length < 2513169434916 then (spec_l12DrawScript.l2 k (x5 ++ [(⟨(([x6] : List Int)), x7, x8, 0, bt210.1⟩ : S38)]) x6 x7 x8 bt210.1 x1000 bt210.2.1 bt210.2.2 x195000 x195001 x195002 x195003 x195004) else (none))
def spec_l12DrawScript.l2 : Nat → List (S38) → Int → Int → Int → Int → List Int → Int → Int → Int → Int → Int → Int → List (S102) → Option ((List (S38)) × Int × Int)
 | 0, _, _, _, _, _, _, _, _, _, _, _, _, _ => none
 | k + 1, x5, x6, x7, x8, x9, x1000, x1001, x1002, x195000, x195001, x195002, x195003, x195004 => if x9 > 0 then (if x5.length < 2513169434916 then (spec_l12DrawScript.l2 k (x5 ++ [(⟨(([x6] : List Int)), x7, x8, wrap64 ((wrap64 (x9 - 1)) + 1), wrap64 (x9 - 1)⟩ : S38)]) x6 x7 x8 (wrap64 (x9 - 1)) x1000 x1001 x1002 x195000 x195001 x195002 x195003 x195004) else (none)) else (spec_l12DrawScript.l1 k x5 x6 (wrap64 (x8 + 1)) x1000 x1001 x1002 x195000 x195001 x195002 x195003 x195004)
end
def spec_l12DrawScript.f (k : Nat) (s0_0 : List Int) (s0_1 : Int) (s0_2 : Int) (a1_0 : Int) (a1_1 : Int) (a1_2 : Int) (a1_3 : Int) (l1_4 : List (S102)) : Option ((List (S38)) × Int × Int) := (spec_l01Cur_pick.f s0_0 s0_1 s0_2 3).bind fun bt195 => (if bt195.1 > 0 then ((spec_l01Cur_pick.f s0_0 bt195.2.1 bt195.2.2 3).bind fun bt198 => ((spec_ScriptFor.f k a1_0 a1_1 a1_2 a1_3 l1_4 bt198.1).bind fun t201 => (some (t201, bt198.2.1, bt198.2.2)))) else (spec_l12DrawScript.l0 k (([] : List (S38))) 0 s0_0 bt195.2.1 bt195.2.2 a1_0 a1_1 a1_2 a1_3 l1_4))
set_option maxHeartbeats 8000000 in
set_option maxRecDepth 100000 in
theorem spec_l12DrawScript.calls (k : Nat) (g : Nat) (s0_0 : List Int) (s0_1 : Int) (s0_2 : Int) (a1_0 : Int) (a1_1 : Int) (a1_2 : Int) (a1_3 : Int) (A1_4 : Option Addr) (c1_4 : Nat) (l1_4 : List (S102)) (r1 : List (S38)) (r2 : Int) (r3 : Int) (w0 w : World) (hI : IsS137 w0 w g s0_0 s0_1 s0_2) (hB : Below w0.heap.size w0 w) (hr1_4 : ∀ W_, KeepBut w W_ g none → Kd.C k102 W_ A1_4 l1_4.length l1_4) (hc1_4 : l1_4.length ≤ c1_4) (h : spec_l12DrawScript.f k s0_0 s0_1 s0_2 a1_0 a1_1 a1_2 a1_3 l1_4 = some (r1, r2, r3)) :
  Calls Try.prog 48 #[.pointer (some ⟨g, 0, none⟩), .agg #[.int .i64 a1_0, .int .i64 a1_1, .int .i64 a1_2, .int .i64 a1_3, .slice A1_4 l1_4.length c1_4]] w fun e w' => ∃ v0_ : Value, e = .returned (v0_) ∧ Kd.N k38 38 w' w.heap.size (fun k_ => (w.heap.size ≤ k_)) v0_ r1 ∧ IsS137 w0 w' g s0_0 r2 r3 ∧ Below w0.heap.size w0 w' ∧ KeepBut w w' g none := by
 have hu26 := Try.underlying26
 have hu38 := Try.underlying38
 have HR1_4 := zA hr1_4
 have HC1_4 := zA hc1_4
 clear hr1_4 hc1_4
 have HI0 := zA hI
 have HK := zA (KeepBut.refl w g none)
 have HL := zA hB.size
 clear hI
 have HW0 := zA hB.size
 have HB := zA hB
 clear hB
 have H : ((spec_l01Cur_pick.f s0_0 s0_1 s0_2 3).bind fun bt195 => (if bt195.1 > 0 then ((spec_l01Cur_pick.f s0_0 bt195.2.1 bt195.2.2 3).bind fun bt198 => ((spec_ScriptFor.f k a1_0 a1_1 a1_2 a1_3 l1_4 bt198.1).bind fun t201 => (some (t201, bt198.2.1, bt198.2.2)))) else (spec_l12DrawScript.l0 k (([] : List (S38))) 0 s0_0 bt195.2.1 bt195.2.2 a1_0 a1_1 a1_2 a1_3 l1_4))) = some (r1, r2, r3) := h
 clear h
 replace H := Option.bind_eq_some_iff.mp H
 obtain ⟨⟨t195, t196, t197⟩, A30, H⟩ := H
 replace H : (if t195 > 0 then ((spec_l01Cur_pick.f s0_0 t196 t197 3).bind fun bt198 => ((spec_ScriptFor.f k a1_0 a1_1 a1_2 a1_3 l1_4 bt198.1).bind fun t201 => (some (t201, bt198.2.1, bt198.2.2)))) else (spec_l12DrawScript.l0 k (([] : List (S38))) 0 s0_0 t196 t197 a1_0 a1_1 a1_2 a1_3 l1_4)) = some (r1, r2, r3) := H
 have A3 := zA A30
 clear A30
 by_cases c4 : t195 > 0
 ·rw [if_pos c4] at H
  have c4b0 : decide (0 < t195) = true := zT c4
  clear c4
  replace H := Option.bind_eq_some_iff.mp H
  obtain ⟨⟨t198, t199, t200⟩, A50, H⟩ := H
  replace H : ((spec_ScriptFor.f k a1_0 a1_1 a1_2 a1_3 l1_4 t198).bind fun t201 => (some (t201, t199, t200))) = some (r1, r2, r3) := H
  have A5 := zA A50
  clear A50
  replace H := Option.bind_eq_some_iff.mp H
  obtain ⟨t201, A60, H⟩ := H
  replace H : (some (t201, t199, t200)) = some (r1, r2, r3) := H
  have A6 := zA A60
  clear A60
  simp only [Option.some.injEq, Prod.mk.injEq] at H
  obtain ⟨rfl, rfl, rfl⟩ := H
  go_enter Try.func48, Try.ntmps48
  try go_wp2_with (first | ((with_reducible refine gate_dst (N := 3) rfl ?_); refine box_event ?hg (N := 3) ?hd (cs := #[.int .i64 a1_0, .int .i64 a1_1, .int .i64 a1_2, .int .i64 a1_3, .slice A1_4 l1_4.length c1_4]) (t := 26) ?hr ?_; (case hd => rfl); (case hg => rfl); (case hr => first | (go_simp; done) | (go_simp; rfl)); intro gb194 hg w7 hbox hb; have n0_ := zA (IsS137.below (by repeat (first | (with_reducible first | exact HI0.out | apply IsS137.alloc | apply IsS137.drewN | apply IsS137.drew | apply IsS137.set_1 | apply IsS137.set_2) | exact HI0.out)) hb); have n1_ := zA (KeepBut.trans (by repeat (first | (with_reducible first | exact HK.out | apply zZ | apply yA | apply yB | apply yC) | exact HK.out)) (KeepBut.of_below hb g none) (.inl rfl)); have n2_ := zA (below_step (by repeat (first | (with_reducible first | exact HB.out | apply zC | apply zB | apply zF | refine zE ?_ (IsS137.ge HI0.out)) | exact HB.out)) hb); have n3_ := zA (hbox); have n4_ := zA ((by rw [hg]; exact (keep_size (w := w) (g := g) (row := none) (by repeat (first | (with_reducible first | exact HK.out | apply zZ | apply yA | apply yB | apply yC) | exact HK.out))) : w.heap.size ≤ gb194)); have n5_ := zA ((Nat.le_trans HW0.out (by rw [hg]; exact (keep_size (w := w) (g := g) (row := none) (by repeat (first | (with_reducible first | exact HK.out | apply zZ | apply yA | apply yB | apply yC) | exact HK.out))) : w.heap.size ≤ gb194) : w0.heap.size ≤ gb194)); have n6_ := zA ((by rw [hg]; exact Nat.ne_of_lt (IsS137.lt (show IsS137 w0 _ g s0_0 s0_1 s0_2 from by repeat (first | (with_reducible first | exact HI0.out | apply IsS137.alloc | apply IsS137.drewN | apply IsS137.drew | apply IsS137.set_1 | apply IsS137.set_2) | exact HI0.out))) : g ≠ gb194)); have n7_ := zA ((by rw [hg]; exact Nat.ne_of_gt (IsS137.lt (show IsS137 w0 _ g s0_0 s0_1 s0_2 from by repeat (first | (with_reducible first | exact HI0.out | apply IsS137.alloc | apply IsS137.drewN | apply IsS137.drew | apply IsS137.set_1 | apply IsS137.set_2) | exact HI0.out))) : gb194 ≠ g)); clear HI0; clear HK; clear HB; have HI0 := n0_; have HK := n1_; have HB := n2_; have BK194 := n3_; have GW194 := n4_; have GE194 := n5_; have NB0_194 := n6_; have NB194_0 := n7_; clear n0_ n1_ n2_ n3_ n4_ n5_ n6_ n7_; clear hb hbox hg) | ((with_reducible refine gate_callee (f := 51) rfl ?_); refine goesL_ (some 11) rfl rfl Try.func51 (by kernel_rfl) rfl #[.pointer (some ⟨g, 0, none⟩), .int .i64 3] rfl (by (try simp only [zU, zV, zW]); first | done | rfl | (simp only [zR, zQ]; rfl)) ?_; (with_reducible refine (spec_l01Cur_pick.calls g s0_0 s0_1 s0_2 3 t195 t196 t197 w0 _ ?side1 ?side2 A3.out).mono ?_); (case side1 => repeat (first | (with_reducible first | exact HI0.out | apply IsS137.alloc | apply IsS137.drewN | apply IsS137.drew | apply IsS137.set_1 | apply IsS137.set_2 | refine IsS137.far ?_ NB0_194.out _) | exact HI0.out)); (case side2 => repeat (first | (with_reducible first | exact HB.out | apply zC | apply zB | apply zF | refine zE ?_ (IsS137.ge HI0.out) | refine zE ?_ GE194.out) | exact HB.out)); rintro e w8 ⟨rfl, hi, hb, hk⟩; refine ⟨_, rfl, ?_⟩; have n0_ := zA (KeepBut.blk hk (g' := gb194) (o := .cells #[.int .i64 a1_0, .int .i64 a1_1, .int .i64 a1_2, .int .i64 a1_3, .slice A1_4 l1_4.length c1_4] 26 (0, 0)) (by (with_reducible repeat (first | refine zG ?_ _ | refine zH ?_ | refine zD ?_ _)); exact BK194.out) NB194_0.out (by simp)); have n1_ := zA (KeepBut.trans (by repeat (first | (with_reducible first | exact HK.out | apply zZ | apply yA | apply yB | apply yC | refine yD ?_ GW194.out _) | exact HK.out)) hk (.inl rfl)); have n2_ := zA (hb); have n3_ := zA (hi); clear BK194; clear HK; clear HB; clear HI0; have BK194 := n0_; have HK := n1_; have HB := n2_; have HI0 := n3_; clear n0_ n1_ n2_ n3_; (try clear hb); (try clear hb2); (try clear hk); (try clear hi)))
  have n0_ := zA (zH BK194.out)
  have n1_ := zA (IsS137.drew HI0.out)
  have n2_ := zA (yB HK.out)
  have n3_ := zA (zF HB.out)
  clear BK194
  clear HI0
  clear HK
  clear HB
  have BK194 := n0_
  have HI0 := n1_
  have HK := n2_
  have HB := n3_
  clear n0_ n1_ n2_ n3_
  refine start_ (n := 5) (S := fun w' => w'.cell? ⟨gb194, 0, none⟩ = some (.int .i64 a1_0) ∧ w'.cell? ⟨gb194, 1, none⟩ = some (.int .i64 a1_1) ∧ w'.cell? ⟨gb194, 2, none⟩ = some (.int .i64 a1_2) ∧ w'.cell? ⟨gb194, 3, none⟩ = some (.int .i64 a1_3) ∧ w'.cell? ⟨gb194, 4, none⟩ = some (.slice A1_4 l1_4.length c1_4)) (ds := []) #[false, false, false, false, false] (by kernel_rfl) rfl rfl ⟨(zK BK194.out 0).trans rfl, (zK BK194.out 1).trans rfl, (zK BK194.out 2).trans rfl, (zK BK194.out 3).trans rfl, (zK BK194.out 4).trans rfl⟩ (fun hHeld => ?_)
  generalize w8.drew = w9 at BK194 HI0 HK HB hHeld ⊢
  refine pure_ (i := 1) (N := some 14) (v := ?_) (a' := ?_) #[false, true, false, false, false] rfl rfl (by kernel_rfl) (fun _ _ _ h => h) (Or.inl ⟨by rfl, ?_⟩) ?_ ?_
  rotate_left
  ·intro w'
   go_simp
   with_reducible rfl
  rotate_left
  ·simp only [Act.put, List.setIfInBounds_toArray, List.set_cons_zero, List.set_cons_succ, i64_w, i32_w]
   rfl
  refine take_ (i := 0) (N := some 13) (v := ?_) (a' := ?_) #[true, true, false, false, false] rfl rfl (by kernel_rfl) (fun _ _ _ h => h) (Or.inl ⟨by rfl, ?_⟩) hHeld ?_ ?_
  rotate_left
  ·rintro w' ⟨s0, s1, s2, s3, s4⟩
   go_simp
   with_reducible rfl
  rotate_left
  ·simp only [Act.put, List.setIfInBounds_toArray, List.set_cons_zero, List.set_cons_succ, i64_w, i32_w]
   rfl
  refine one_ (i := 2) (N := some 15) #[true, true, true, false, false] rfl rfl (by kernel_rfl) (by decide) (fun K hK => ?_)
  refine goes_ Try.func51 (by kernel_rfl) rfl #[.pointer (some ⟨g, 0, none⟩), .int .i64 3] (by rfl) rfl rfl (by (try simp only [zU, zV, zW]); first | done | rfl | (simp only [zR, zQ]; rfl)) ?_
  with_reducible refine (spec_l01Cur_pick.calls g s0_0 t196 t197 3 t198 t199 t200 w0 _ ?side1 ?side2 A5.out).mono ?_
  (case side1 => repeat (first | (with_reducible first | exact HI0.out | apply IsS137.alloc | apply IsS137.drewN | apply IsS137.drew | apply IsS137.set_1 | apply IsS137.set_2 | refine IsS137.far ?_ NB0_194.out _) | exact HI0.out))
  (case side2 => repeat (first | (with_reducible first | exact HB.out | apply zC | apply zB | apply zF | refine zE ?_ (IsS137.ge HI0.out) | refine zE ?_ GE194.out) | exact HB.out))
  rintro e w10 ⟨rfl, hi, hb, hk⟩
  refine ⟨_, rfl, ?_⟩
  have n0_ := zA (KeepBut.blk hk (g' := gb194) (o := .cells #[.int .i64 a1_0, .int .i64 a1_1, .int .i64 a1_2, .int .i64 a1_3, .slice A1_4 l1_4.length c1_4] 26 (0, 0)) (by (with_reducible repeat (first | refine zG ?_ _ | refine zH ?_ | refine zD ?_ _)); exact BK194.out) NB194_0.out (by simp))
  have n1_ := zA (KeepBut.trans (by repeat (first | (with_reducible first | exact HK.out | apply zZ | apply yA | apply yB | apply yC | refine yD ?_ GW194.out _) | exact HK.out)) hk (.inl rfl))
  have n2_ := zA (hb)
  have n3_ := zA (hi)
  clear BK194
  clear HK
  clear HB
  clear HI0
  have BK194 := n0_
  have HK := n1_
  have HB := n2_
  have HI0 := n3_
  clear n0_ n1_ n2_ n3_
  (try clear hb)
  (try clear hb2)
  (try clear hk)
  (try clear hi)
  refine hK.out _ _ ⟨(zK BK194.out 0).trans rfl, (zK BK194.out 1).trans rfl, (zK BK194.out 2).trans rfl, (zK BK194.out 3).trans rfl, (zK BK194.out 4).trans rfl⟩ (fun hHeld => ?_)
  clear hK K
  refine norm_ (a' := ?_) ?_ ?_
  rotate_left
  ·show Act.put _ (some 15) _ = _
   simp only [Act.put, List.setIfInBounds_toArray, List.set_cons_zero, List.set_cons_succ, i64_w, i32_w]
   rfl
  refine one_ (i := 3) (N := some 16) #[true, true, true, true, false] rfl rfl (by kernel_rfl) (by decide) (fun K hK => ?_)
  refine goes_ Try.func11 (by kernel_rfl) rfl #[.agg #[.int .i64 a1_0, .int .i64 a1_1, .int .i64 a1_2, .int .i64 a1_3, .slice A1_4 l1_4.length c1_4], .int .i64 t198] (by rfl) rfl rfl (by (try simp only [zU, zV, zW]); first | done | rfl | (simp only [zR, zQ]; rfl)) ?_
  with_reducible refine (spec_ScriptFor.calls k a1_0 a1_1 a1_2 a1_3 _ _ l1_4 t198 t201 _ ?side1 ?side2 A6.out).mono ?_
  (case side1 => exact Kd.C_foot_now HR1_4.out (by repeat (first | (with_reducible first | exact HK.out | apply zZ | apply yA | apply yB | apply yC | refine yD ?_ GW194.out _) | exact HK.out)))
  (case side2 => exact HC1_4.out)
  rintro e w11 ⟨v202, rfl, ho0, hb⟩
  refine ⟨_, rfl, ?_⟩
  have n0_ := zA (Kd.N_lower (Kd.N_mono (ok' := fun k_ => (w.heap.size ≤ k_) ∧ k_ ≠ gb194 ∧ k_ ≠ g) ho0 (fun k_ hk_ => ⟨(Nat.le_trans (keep_size (w := w) (g := g) (row := none) (by repeat (first | (with_reducible first | exact HK.out | apply zZ | apply yA | apply yB | apply yC | refine yD ?_ GW194.out _) | exact HK.out))) hk_), (Kd.freshB (g := gb194) (o := .cells #[.int .i64 a1_0, .int .i64 a1_1, .int .i64 a1_2, .int .i64 a1_3, .slice A1_4 l1_4.length c1_4] 26 (0, 0)) (by (with_reducible repeat (first | refine zG ?_ _ | refine zH ?_ | refine zD ?_ _)); exact BK194.out) k_ hk_), (IsS137.fresh (by repeat (first | (with_reducible first | exact HI0.out | apply IsS137.alloc | apply IsS137.drewN | apply IsS137.drew | apply IsS137.set_1 | apply IsS137.set_2 | refine IsS137.far ?_ NB0_194.out _) | exact HI0.out)) k_ hk_)⟩)) (keep_size (w := w) (g := g) (row := none) (by repeat (first | (with_reducible first | exact HK.out | apply zZ | apply yA | apply yB | apply yC | refine yD ?_ GW194.out _) | exact HK.out))))
  have n1_ := zA (IsS137.below (by repeat (first | (with_reducible first | exact HI0.out | apply IsS137.alloc | apply IsS137.drewN | apply IsS137.drew | apply IsS137.set_1 | apply IsS137.set_2 | refine IsS137.far ?_ NB0_194.out _) | exact HI0.out)) hb)
  have n2_ := zA (blk_below (g := gb194) (o := .cells #[.int .i64 a1_0, .int .i64 a1_1, .int .i64 a1_2, .int .i64 a1_3, .slice A1_4 l1_4.length c1_4] 26 (0, 0)) (by (with_reducible repeat (first | refine zG ?_ _ | refine zH ?_ | refine zD ?_ _)); exact BK194.out) hb)
  have n3_ := zA (KeepBut.trans (by repeat (first | (with_reducible first | exact HK.out | apply zZ | apply yA | apply yB | apply yC | refine yD ?_ GW194.out _) | exact HK.out)) (KeepBut.of_below hb g none) (.inl rfl))
  have n4_ := zA (below_step (by repeat (first | (with_reducible first | exact HB.out | apply zC | apply zB | apply zF | refine zE ?_ (IsS137.ge HI0.out) | refine zE ?_ GE194.out) | exact HB.out)) hb)
  clear HI0
  clear BK194
  clear HK
  clear HB
  have HO203 := n0_
  have HI0 := n1_
  have BK194 := n2_
  have HK := n3_
  have HB := n4_
  clear n0_ n1_ n2_ n3_ n4_
  (try clear hb)
  (try clear hb2)
  (try clear hk)
  (try clear hi)
  (try clear ho0)
  refine hK.out _ _ ⟨(zK BK194.out 0).trans rfl, (zK BK194.out 1).trans rfl, (zK BK194.out 2).trans rfl, (zK BK194.out 3).trans rfl, (zK BK194.out 4).trans rfl⟩ (fun hHeld => ?_)
  clear hK K
  refine norm_ (a' := ?_) ?_ ?_
  rotate_left
  ·show Act.put _ (some 16) _ = _
   simp only [Act.put, List.setIfInBounds_toArray, List.set_cons_zero, List.set_cons_succ, i64_w, i32_w]
   rfl
  refine pure_ (i := 4) (N := some 4) (v := ?_) (a' := ?_) #[true, true, true, true, true] rfl rfl (by kernel_rfl) (fun _ _ _ h => h) (Or.inl ⟨by rfl, ?_⟩) ?_ ?_
  rotate_left
  ·intro w'
   go_simp
   with_reducible rfl
  rotate_left
  ·simp only [Act.put, List.setIfInBounds_toArray, List.set_cons_zero, List.set_cons_succ, i64_w, i32_w]
   rfl
  refine done_ (by kernel_rfl) ?_
  try go_wp2
  go_ret
  exact ⟨_, by first | rfl | (simp [errW_none, errW_some] <;> rfl) | (simp [*, errW_none, errW_some] <;> rfl), by (with_reducible repeat (first | apply Kd.N_alloc | apply Kd.N_drewN | apply Kd.N_drew)); exact Kd.N_mono HO203.out (fun _ hk => hk.1), by repeat (first | (with_reducible first | exact HI0.out | apply IsS137.alloc | apply IsS137.drewN | apply IsS137.drew | apply IsS137.set_1 | apply IsS137.set_2 | refine IsS137.far ?_ NB0_194.out _) | exact HI0.out), by repeat (first | (with_reducible first | exact HB.out | apply zC | apply zB | apply zF | refine zE ?_ (IsS137.ge HI0.out) | refine zE ?_ GE194.out) | exact HB.out), by repeat (first | (with_reducible first | exact HK.out | apply zZ | apply yA | apply yB | apply yC | refine yD ?_ GW194.out _) | exact HK.out)⟩
 ·rw [if_neg c4] at H
  have c4b0 : decide (0 < t195) = false := decide_eq_false c4
  clear c4
  obtain ⟨y204, hy204⟩ : ∃ y_ : List (S38), y_ = (([] : List (S38))) := ⟨_, rfl⟩
  replace H : (spec_l12DrawScript.l0 k y204 0 s0_0 t196 t197 a1_0 a1_1 a1_2 a1_3 l1_4) = some (r1, r2, r3) := by first | (rw [hy204]; with_reducible exact H) | (have H2_ := (zS _ _).symm.trans H; rw [hy204]; with_reducible exact H2_) | (have H2_ := (zS _ _).symm.trans H; with_reducible exact H2_) | with_reducible exact H | (rw [hy204]; exact H) | exact H
  have Ny204 := zA hy204
  clear hy204
  have H' := zA H
  clear H
  go_enter Try.func48, Try.ntmps48
  go_wp2_with (first | ((with_reducible refine gate_dst (N := 3) rfl ?_); refine box_event ?hg (N := 3) ?hd (cs := #[.int .i64 a1_0, .int .i64 a1_1, .int .i64 a1_2, .int .i64 a1_3, .slice A1_4 l1_4.length c1_4]) (t := 26) ?hr ?_; (case hd => rfl); (case hg => rfl); (case hr => first | (go_simp; done) | (go_simp; rfl)); intro gb194 hg w12 hbox hb; have n0_ := zA (IsS137.below (by repeat (first | (with_reducible first | exact HI0.out | apply IsS137.alloc | apply IsS137.drewN | apply IsS137.drew | apply IsS137.set_1 | apply IsS137.set_2) | exact HI0.out)) hb); have n1_ := zA (KeepBut.trans (by repeat (first | (with_reducible first | exact HK.out | apply zZ | apply yA | apply yB | apply yC) | exact HK.out)) (KeepBut.of_below hb g none) (.inl rfl)); have n2_ := zA (below_step (by repeat (first | (with_reducible first | exact HB.out | apply zC | apply zB | apply zF | refine zE ?_ (IsS137.ge HI0.out)) | exact HB.out)) hb); have n3_ := zA (hbox); have n4_ := zA ((by rw [hg]; exact (keep_size (w := w) (g := g) (row := none) (by repeat (first | (with_reducible first | exact HK.out | apply zZ | apply yA | apply yB | apply yC) | exact HK.out))) : w.heap.size ≤ gb194)); have n5_ := zA ((Nat.le_trans HW0.out (by rw [hg]; exact (keep_size (w := w) (g := g) (row := none) (by repeat (first | (with_reducible first | exact HK.out | apply zZ | apply yA | apply yB | apply yC) | exact HK.out))) : w.heap.size ≤ gb194) : w0.heap.size ≤ gb194)); have n6_ := zA ((by rw [hg]; exact Nat.ne_of_lt (IsS137.lt (show IsS137 w0 _ g s0_0 s0_1 s0_2 from by repeat (first | (with_reducible first | exact HI0.out | apply IsS137.alloc | apply IsS137.drewN | apply IsS137.drew | apply IsS137.set_1 | apply IsS137.set_2) | exact HI0.out))) : g ≠ gb194)); have n7_ := zA ((by rw [hg]; exact Nat.ne_of_gt (IsS137.lt (show IsS137 w0 _ g s0_0 s0_1 s0_2 from by repeat (first | (with_reducible first | exact HI0.out | apply IsS137.alloc | apply IsS137.drewN | apply IsS137.drew | apply IsS137.set_1 | apply IsS137.set_2) | exact HI0.out))) : gb194 ≠ g)); clear HI0; clear HK; clear HB; have HI0 := n0_; have HK := n1_; have HB := n2_; have BK194 := n3_; have GW194 := n4_; have GE194 := n5_; have NB0_194 := n6_; have NB194_0 := n7_; clear n0_ n1_ n2_ n3_ n4_ n5_ n6_ n7_; clear hb hbox hg) | ((with_reducible refine gate_callee (f := 51) rfl ?_); refine goesL_ (some 11) rfl rfl Try.func51 (by kernel_rfl) rfl #[.pointer (some ⟨g, 0, none⟩), .int .i64 3] rfl (by (try simp only [zU, zV, zW]); first | done | rfl | (simp only [zR, zQ]; rfl)) ?_; (with_reducible refine (spec_l01Cur_pick.calls g s0_0 s0_1 s0_2 3 t195 t196 t197 w0 _ ?side1 ?side2 A3.out).mono ?_); (case side1 => repeat (first | (with_reducible first | exact HI0.out | apply IsS137.alloc | apply IsS137.drewN | apply IsS137.drew | apply IsS137.set_1 | apply IsS137.set_2 | refine IsS137.far ?_ NB0_194.out _) | exact HI0.out)); (case side2 => repeat (first | (with_reducible first | exact HB.out | apply zC | apply zB | apply zF | refine zE ?_ (IsS137.ge HI0.out) | refine zE ?_ GE194.out) | exact HB.out)); rintro e w13 ⟨rfl, hi, hb, hk⟩; refine ⟨_, rfl, ?_⟩; have n0_ := zA (KeepBut.blk hk (g' := gb194) (o := .cells #[.int .i64 a1_0, .int .i64 a1_1, .int .i64 a1_2, .int .i64 a1_3, .slice A1_4 l1_4.length c1_4] 26 (0, 0)) (by (with_reducible repeat (first | refine zG ?_ _ | refine zH ?_ | refine zD ?_ _)); exact BK194.out) NB194_0.out (by simp)); have n1_ := zA (KeepBut.trans (by repeat (first | (with_reducible first | exact HK.out | apply zZ | apply yA | apply yB | apply yC | refine yD ?_ GW194.out _) | exact HK.out)) hk (.inl rfl)); have n2_ := zA (hb); have n3_ := zA (hi); clear BK194; clear HK; clear HB; clear HI0; have BK194 := n0_; have HK := n1_; have HB := n2_; have HI0 := n3_; clear n0_ n1_ n2_ n3_; (try clear hb); (try clear hb2); (try clear hk); (try clear hi)) | ((with_reducible refine gate_dst (N := 17) rfl ?_); refine Kd.N_lit k38 _ 38 ?hg (N' := 17) ?hd (xs := ([] : List (S38))) (inner := []) (ok := (fun k_ => (w.heap.size ≤ k_) ∧ k_ ≠ gb194 ∧ k_ ≠ g)) (okp := (fun k_ => (w.heap.size ≤ k_) ∧ k_ ≠ gb194 ∧ k_ ≠ g)) ?hr ?hp (fun _ hk => hk) ((show ∀ k_, w13.heap.size ≤ k_ → (fun k_ => (w.heap.size ≤ k_) ∧ k_ ≠ gb194 ∧ k_ ≠ g) k_ from fun k_ hk => ⟨(Nat.le_trans (keep_size (w := w) (g := g) (row := none) (by repeat (first | (with_reducible first | exact HK.out | apply zZ | apply yA | apply yB | apply yC | refine yD ?_ GW194.out _) | exact HK.out))) hk), Kd.freshB (g := gb194) (o := .cells #[.int .i64 a1_0, .int .i64 a1_1, .int .i64 a1_2, .int .i64 a1_3, .slice A1_4 l1_4.length c1_4] 26 (0, 0)) (by (with_reducible repeat (first | refine zG ?_ _ | refine zH ?_ | refine zD ?_ _)); exact BK194.out) k_ hk, IsS137.fresh (by repeat (first | (with_reducible first | exact HI0.out | apply IsS137.alloc | apply IsS137.drewN | apply IsS137.drew | apply IsS137.set_1 | apply IsS137.set_2 | refine IsS137.far ?_ NB0_194.out _) | exact HI0.out)) k_ hk⟩) _ (Nat.le_refl _)) (Below.refl _ _) (Nat.le_refl _) (by simp) ?_; (case hd => rfl); (case hg => rfl); (case hr => first | (go_simp; done) | (go_simp; rfl)); (case hp => exact (Reps.none _ _)); intro v205 w14 ho15 hb hg_ hnew_; clear hg_ hnew_; (first | rw [← Ny204.out] at ho15 | (simp only [Int.reduceToNat] at ho15; rw [← Ny204.out] at ho15)); have n0_ := zA (Kd.N_lower ho15 (keep_size (w := w) (g := g) (row := none) (by repeat (first | (with_reducible first | exact HK.out | apply zZ | apply yA | apply yB | apply yC | refine yD ?_ GW194.out _) | exact HK.out)))); have n1_ := zA (IsS137.below (by repeat (first | (with_reducible first | exact HI0.out | apply IsS137.alloc | apply IsS137.drewN | apply IsS137.drew | apply IsS137.set_1 | apply IsS137.set_2 | refine IsS137.far ?_ NB0_194.out _) | exact HI0.out)) hb); have n2_ := zA (blk_below (g := gb194) (o := .cells #[.int .i64 a1_0, .int .i64 a1_1, .int .i64 a1_2, .int .i64 a1_3, .slice A1_4 l1_4.length c1_4] 26 (0, 0)) (by (with_reducible repeat (first | refine zG ?_ _ | refine zH ?_ | refine zD ?_ _)); exact BK194.out) hb); have n3_ := zA (KeepBut.trans (by repeat (first | (with_reducible first | exact HK.out | apply zZ | apply yA | apply yB | apply yC | refine yD ?_ GW194.out _) | exact HK.out)) (KeepBut.of_below hb g none) (.inl rfl)); have n4_ := zA (below_step (by repeat (first | (with_reducible first | exact HB.out | apply zC | apply zB | apply zF | refine zE ?_ (IsS137.ge HI0.out) | refine zE ?_ GE194.out) | exact HB.out)) hb); clear HI0; clear BK194; clear HK; clear HB; have HO206 := n0_; have HI0 := n1_; have BK194 := n2_; have HK := n3_; have HB := n4_; clear n0_ n1_ n2_ n3_ n4_; clear hb ho15))
  go_loopg [5, 6] k (fun kq v5 v6 w' => ∃ (x5_1 : List (S38)) (x6_1 : Int) (x1001_1 : Int) (x1002_1 : Int), v6 = .int .i64 x6_1 ∧ Aside0 (spec_l12DrawScript.l0 kq x5_1 x6_1 s0_0 x1001_1 x1002_1 a1_0 a1_1 a1_2 a1_3 l1_4 = some (r1, r2, r3)) ∧ Aside0 (kq ≤ k) ∧ Aside0 (Kd.N k38 38 w' w.heap.size (fun k_ => (w.heap.size ≤ k_) ∧ k_ ≠ gb194 ∧ k_ ≠ g) v5 x5_1) ∧ Aside0 (w'.heap[gb194]? = some (.cells #[.int .i64 a1_0, .int .i64 a1_1, .int .i64 a1_2, .int .i64 a1_3, (.slice A1_4 l1_4.length c1_4)] 26 (0, 0))) ∧ Aside0 (IsS137 w0 w' g s0_0 x1001_1 x1002_1) ∧ Aside0 (KeepBut w w' g none) ∧ Aside0 (Below w0.heap.size w0 w'))
  case atStart => exact ⟨(y204), (0), (t196), (t197), (by first | rfl | (simp; done) | (simp [*]; done)), H', ⟨Nat.le_refl _⟩, ⟨by (with_reducible repeat (first | apply Kd.N_alloc | apply Kd.N_drewN | apply Kd.N_drew)); exact HO206.out⟩, ⟨by (with_reducible repeat (first | refine zG ?_ _ | refine zH ?_ | refine zD ?_ _)); exact BK194.out⟩, ⟨by repeat (first | (with_reducible first | exact HI0.out | apply IsS137.alloc | apply IsS137.drewN | apply IsS137.drew | apply IsS137.set_1 | apply IsS137.set_2 | refine IsS137.far ?_ NB0_194.out _) | exact HI0.out)⟩, ⟨by repeat (first | (with_reducible first | exact HK.out | apply zZ | apply yA | apply yB | apply yC | refine yD ?_ GW194.out _) | exact HK.out)⟩, ⟨by repeat (first | (with_reducible first | exact HB.out | apply zC | apply zB | apply zF | refine zE ?_ (IsS137.ge HI0.out) | refine zE ?_ GE194.out) | exact HB.out)⟩⟩
  case round =>
   clear H'
   try clear c1
   try clear p2
   try clear c4
   try clear c4b0
   try clear c5
   try clear c11
   obtain ⟨x5_1, x6_1, x1001_1, x1002_1, rfl, HA, HK1, HO_5, BK194, HI0, HK, HB⟩ := hrel
   cases gk with
   | zero => exact absurd HA.out (by simp [spec_l12DrawScript.l0])
   | succ k1 =>
    have H := HA.out
    clear HA
    simp only [spec_l12DrawScript.l0] at H
    by_cases c16 : x6_1 < (l1_4.length : Int)
    ·rw [if_pos c16] at H
     have c16b0 : decide (x6_1 < (l1_4.length : Int)) = true := zT c16
     clear c16
     have H' := zA H
     clear H
     have hnb17 := NB194_0.out
     have hnc17 := NB0_194.out
     have hcz18_0 : wr.cell? ⟨gb194, 0, none⟩ = some (.int .i64 a1_0) := (zK BK194.out 0).trans rfl
     have hcz18_1 : wr.cell? ⟨gb194, 1, none⟩ = some (.int .i64 a1_1) := (zK BK194.out 1).trans rfl
     have hcz18_2 : wr.cell? ⟨gb194, 2, none⟩ = some (.int .i64 a1_2) := (zK BK194.out 2).trans rfl
     have hcz18_3 : wr.cell? ⟨gb194, 3, none⟩ = some (.int .i64 a1_3) := (zK BK194.out 3).trans rfl
     have hcz18_4 : wr.cell? ⟨gb194, 4, none⟩ = some (.slice A1_4 l1_4.length c1_4) := (zK BK194.out 4).trans rfl
     have hfz18_0 := zJ BK194.out 0
     have hfz18_1 := zJ BK194.out 1
     have hfz18_2 := zJ BK194.out 2
     have hfz18_3 := zJ BK194.out 3
     have hfz18_4 := zJ BK194.out 4
     go_wp2
     go_loopg [5, 7] k1 (fun kq v5 v7 w' => ∃ (x5_2 : List (S38)) (x7_2 : Int) (x1001_2 : Int) (x1002_2 : Int), v7 = .int .i64 x7_2 ∧ Aside0 (spec_l12DrawScript.l1 kq x5_2 x6_1 x7_2 s0_0 x1001_2 x1002_2 a1_0 a1_1 a1_2 a1_3 l1_4 = some (r1, r2, r3)) ∧ Aside0 (kq ≤ k1) ∧ Aside0 (Kd.N k38 38 w' w.heap.size (fun k_ => (w.heap.size ≤ k_) ∧ k_ ≠ gb194 ∧ k_ ≠ g) v5 x5_2) ∧ Aside0 (w'.heap[gb194]? = some (.cells #[.int .i64 a1_0, .int .i64 a1_1, .int .i64 a1_2, .int .i64 a1_3, (.slice A1_4 l1_4.length c1_4)] 26 (0, 0))) ∧ Aside0 (IsS137 w0 w' g s0_0 x1001_2 x1002_2) ∧ Aside0 (KeepBut w w' g none) ∧ Aside0 (Below w0.heap.size w0 w'))
     case atStart => exact ⟨(x5_1), (0), (x1001_1), (x1002_1), (by first | rfl | (simp; done) | (simp [*]; done)), H', ⟨Nat.le_refl _⟩, ⟨by (with_reducible repeat (first | apply Kd.N_alloc | apply Kd.N_drewN | apply Kd.N_drew)); exact HO_5.out⟩, ⟨by (with_reducible repeat (first | refine zG ?_ _ | refine zH ?_ | refine zD ?_ _)); exact BK194.out⟩, ⟨by repeat (first | (with_reducible first | exact HI0.out | apply IsS137.alloc | apply IsS137.drewN | apply IsS137.drew | apply IsS137.set_1 | apply IsS137.set_2 | refine IsS137.far ?_ NB0_194.out _) | exact HI0.out)⟩, ⟨by repeat (first | (with_reducible first | exact HK.out | apply zZ | apply yA | apply yB | apply yC | refine yD ?_ GW194.out _) | exact HK.out)⟩, ⟨by repeat (first | (with_reducible first | exact HB.out | apply zC | apply zB | apply zF | refine zE ?_ (IsS137.ge HI0.out) | refine zE ?_ GE194.out) | exact HB.out)⟩⟩
     case round =>
      clear H'
      try clear c1
      try clear p2
      try clear c4
      try clear c4b0
      try clear c5
      try clear c11
      try clear c16
      try clear c16b0
      try clear c17
      try clear hcz18_0
      try clear hcz18_1
      try clear hcz18_2
      try clear hcz18_3
      try clear hcz18_4
      try clear hfz18_0
      try clear hfz18_1
      try clear hfz18_2
      try clear hfz18_3
      try clear hfz18_4
      try clear p2
      obtain ⟨x5_2, x7_2, x1001_2, x1002_2, rfl, HA, HK2, HO_5, BK194, HI0, HK, HB⟩ := hrel
      cases gk with
      | zero => exact absurd HA.out (by simp [spec_l12DrawScript.l1])
      | succ k2 =>
       have H := HA.out
       clear HA
       simp only [spec_l12DrawScript.l1] at H
       by_cases c19 : x7_2 < 64
       ·rw [if_pos c19] at H
        have c19b0 : decide (x7_2 < 64) = true := zT c19
        clear c19
        replace H := Option.bind_eq_some_iff.mp H
        obtain ⟨⟨t207, t208, t209⟩, A200, H⟩ := H
        replace H : (if (wrap64 (x7_2 + t207)) > 63 then (spec_l12DrawScript.j2 k2 x5_2 x6_1 x7_2 63 s0_0 t208 t209 a1_0 a1_1 a1_2 a1_3 l1_4) else (spec_l12DrawScript.j2 k2 x5_2 x6_1 x7_2 (wrap64 (x7_2 + t207)) s0_0 t208 t209 a1_0 a1_1 a1_2 a1_3 l1_4)) = some (r1, r2, r3) := H
        have A20 := zA A200
        clear A200
        have HC21 := zA H
        clear H
        go_upto_if 32 with (first | ((with_reducible refine gate_callee (f := 51) rfl ?_); refine goesL_ (some 29) rfl rfl Try.func51 (by kernel_rfl) rfl #[.pointer (some ⟨g, 0, none⟩), .int .i64 64] rfl (by (try simp only [zU, zV, zW]); first | done | rfl | (simp only [zR, zQ]; rfl)) ?_; (with_reducible refine (spec_l01Cur_pick.calls g s0_0 x1001_2 x1002_2 64 t207 t208 t209 w0 _ ?side1 ?side2 A20.out).mono ?_); (case side1 => repeat (first | (with_reducible first | exact HI0.out | apply IsS137.alloc | apply IsS137.drewN | apply IsS137.drew | apply IsS137.set_1 | apply IsS137.set_2 | refine IsS137.far ?_ NB0_194.out _) | exact HI0.out)); (case side2 => repeat (first | (with_reducible first | exact HB.out | apply zC | apply zB | apply zF | refine zE ?_ (IsS137.ge HI0.out) | refine zE ?_ GE194.out) | exact HB.out)); rintro e w22 ⟨rfl, hi, hb, hk⟩; refine ⟨_, rfl, ?_⟩; have n0_ := zA (Kd.N_mono (Kd.N_keep (Kd.N_mono (ok := fun k_ => (((w.heap.size ≤ k_)) ∧ (k_ ≠ gb194 ∧ k_ ≠ g))) (by (with_reducible repeat (first | apply Kd.N_alloc | apply Kd.N_drewN | apply Kd.N_drew)); exact HO_5.out) (fun k_ hk_ => (⟨hk_, hk_.2.2⟩ : _ ∧ k_ ≠ g))) hk (fun _ h => h.2)) (fun _ h => h.1)); have n1_ := zA (KeepBut.blk hk (g' := gb194) (o := .cells #[.int .i64 a1_0, .int .i64 a1_1, .int .i64 a1_2, .int .i64 a1_3, .slice A1_4 l1_4.length c1_4] 26 (0, 0)) (by (with_reducible repeat (first | refine zG ?_ _ | refine zH ?_ | refine zD ?_ _)); exact BK194.out) NB194_0.out (by simp)); have n2_ := zA (KeepBut.trans (by repeat (first | (with_reducible first | exact HK.out | apply zZ | apply yA | apply yB | apply yC | refine yD ?_ GW194.out _) | exact HK.out)) hk (.inl rfl)); have n3_ := zA (hb); have n4_ := zA (hi); clear HO_5; clear BK194; clear HK; clear HB; clear HI0; have HO_5 := n0_; have BK194 := n1_; have HK := n2_; have HB := n3_; have HI0 := n4_; clear n0_ n1_ n2_ n3_ n4_; (try clear hb); (try clear hb2); (try clear hk); (try clear hi)))
        (try simp only [Act.put, List.setIfInBounds_toArray, List.set_cons_zero, List.set_cons_succ])
        go_cut [8] (fun v8 wc => ∃ (kq : Nat) (x8_20 : Int), v8 = .int .i64 x8_20 ∧ Aside0 (spec_l12DrawScript.j2 kq x5_2 x6_1 x7_2 x8_20 s0_0 t208 t209 a1_0 a1_1 a1_2 a1_3 l1_4 = some (r1, r2, r3)) ∧ Aside0 (kq ≤ k2) ∧ Aside0 (Kd.N k38 38 wc w.heap.size (fun k_ => (w.heap.size ≤ k_) ∧ k_ ≠ gb194 ∧ k_ ≠ g) u5 x5_2) ∧ Aside0 (wc.heap[gb194]? = some (.cells #[.int .i64 a1_0, .int .i64 a1_1, .int .i64 a1_2, .int .i64 a1_3, (.slice A1_4 l1_4.length c1_4)] 26 (0, 0))) ∧ Aside0 (IsS137 w0 wc g s0_0 t208 t209) ∧ Aside0 (KeepBut w wc g none) ∧ Aside0 (Below w0.heap.size w0 wc))
        case first =>
         have H := HC21.out
         clear HC21
         by_cases c23 : (wrap64 (x7_2 + t207)) > 63
         ·rw [if_pos c23] at H
          have c23b0 : decide (63 < (wrap64 (x7_2 + t207))) = true := zT c23
          clear c23
          (first | rw [c23b0] | (simp only [i64_w, i32_w]; rw [c23b0]) | skip)
          have H' := zA H
          clear H
          go_wp2
          go_meet
          case rel => exact ⟨_, (63), (by first | rfl | (simp; done) | (simp [*]; done)), H', ⟨by have := HK1.out; have := HK2.out; first | omega | exact Nat.le_refl _⟩, ⟨by (with_reducible repeat (first | apply Kd.N_alloc | apply Kd.N_drewN | apply Kd.N_drew)); exact HO_5.out⟩, ⟨by (with_reducible repeat (first | refine zG ?_ _ | refine zH ?_ | refine zD ?_ _)); exact BK194.out⟩, ⟨by repeat (first | (with_reducible first | exact HI0.out | apply IsS137.alloc | apply IsS137.drewN | apply IsS137.drew | apply IsS137.set_1 | apply IsS137.set_2 | refine IsS137.far ?_ NB0_194.out _) | exact HI0.out)⟩, ⟨by repeat (first | (with_reducible first | exact HK.out | apply zZ | apply yA | apply yB | apply yC | refine yD ?_ GW194.out _) | exact HK.out)⟩, ⟨by repeat (first | (with_reducible first | exact HB.out | apply zC | apply zB | apply zF | refine zE ?_ (IsS137.ge HI0.out) | refine zE ?_ GE194.out) | exact HB.out)⟩⟩
         ·rw [if_neg c23] at H
          have c23b0 : decide (63 < (wrap64 (x7_2 + t207))) = false := decide_eq_false c23
          clear c23
          (first | rw [c23b0] | (simp only [i64_w, i32_w]; rw [c23b0]) | skip)
          have H' := zA H
          clear H
          go_wp2
          go_meet
          case rel => exact ⟨_, (wrap64 (x7_2 + t207)), (by first | rfl | (simp; done) | (simp [*]; done)), H', ⟨by have := HK1.out; have := HK2.out; first | omega | exact Nat.le_refl _⟩, ⟨by (with_reducible repeat (first | apply Kd.N_alloc | apply Kd.N_drewN | apply Kd.N_drew)); exact HO_5.out⟩, ⟨by (with_reducible repeat (first | refine zG ?_ _ | refine zH ?_ | refine zD ?_ _)); exact BK194.out⟩, ⟨by repeat (first | (with_reducible first | exact HI0.out | apply IsS137.alloc | apply IsS137.drewN | apply IsS137.drew | apply IsS137.set_1 | apply IsS137.set_2 | refine IsS137.far ?_ NB0_194.out _) | exact HI0.out)⟩, ⟨by repeat (first | (with_reducible first | exact HK.out | apply zZ | apply yA | apply yB | apply yC | refine yD ?_ GW194.out _) | exact HK.out)⟩, ⟨by repeat (first | (with_reducible first | exact HB.out | apply zC | apply zB | apply zF | refine zE ?_ (IsS137.ge HI0.out) | refine zE ?_ GE194.out) | exact HB.out)⟩⟩
        case rest =>
         clear HC21
         try clear c1
         try clear c2
         try clear p2
         try clear c4
         try clear c4b0
         try clear c5
         try clear p6
         try clear c11
         try clear c16
         try clear c16b0
         try clear c17
         try clear c19
         try clear c19b0
         try clear c23
         try clear c23b0
         try clear hcz18_0
         try clear hcz18_1
         try clear hcz18_2
         try clear hcz18_3
         try clear hcz18_4
         try clear hfz18_0
         try clear hfz18_1
         try clear hfz18_2
         try clear hfz18_3
         try clear hfz18_4
         try clear p2
         obtain ⟨kq, x8_20, rfl, HA, HJ20, HO_5, BK194, HI0, HK, HB⟩ := hcut
         cases kq with
         | zero => exact absurd HA.out (by simp [spec_l12DrawScript.j2])
         | succ kj20 =>
          have H := HA.out
          clear HA
          simp only [spec_l12DrawScript.j2] at H
          replace H := Option.bind_eq_some_iff.mp H
          obtain ⟨⟨t210, t211, t212⟩, A240, H⟩ := H
          replace H : (if x5_2.length < 2513169434916 then (spec_l12DrawScript.l2 kj20 (x5_2 ++ [(⟨(([x6_1] : List Int)), x7_2, x8_20, 0, t210⟩ : S38)]) x6_1 x7_2 x8_20 t210 s0_0 t211 t212 a1_0 a1_1 a1_2 a1_3 l1_4) else (none)) = some (r1, r2, r3) := H
          have A24 := zA A240
          clear A240
          obtain ⟨y213, hy213⟩ : ∃ y_ : List Int, y_ = (([x6_1] : List Int)) := ⟨_, rfl⟩
          replace H : (if x5_2.length < 2513169434916 then (spec_l12DrawScript.l2 kj20 (x5_2 ++ [(⟨y213, x7_2, x8_20, 0, t210⟩ : S38)]) x6_1 x7_2 x8_20 t210 s0_0 t211 t212 a1_0 a1_1 a1_2 a1_3 l1_4) else (none)) = some (r1, r2, r3) := by first | (rw [hy213]; with_reducible exact H) | (have H2_ := (zS _ _).symm.trans H; rw [hy213]; with_reducible exact H2_) | (have H2_ := (zS _ _).symm.trans H; with_reducible exact H2_) | with_reducible exact H | (rw [hy213]; exact H) | exact H
          have Ny213 := zA hy213
          clear hy213
          by_cases c25 : x5_2.length < 2513169434916
          ·rw [if_pos c25] at H
           have LMc25 := zA c25
           clear c25
           obtain ⟨y216, hy216⟩ : ∃ y_ : List (S38), y_ = (x5_2 ++ [(⟨y213, x7_2, x8_20, 0, t210⟩ : S38)]) := ⟨_, rfl⟩
           replace H : (spec_l12DrawScript.l2 kj20 y216 x6_1 x7_2 x8_20 t210 s0_0 t211 t212 a1_0 a1_1 a1_2 a1_3 l1_4) = some (r1, r2, r3) := by first | (rw [hy216]; with_reducible exact H) | (have H2_ := (zS _ _).symm.trans H; rw [hy216]; with_reducible exact H2_) | (have H2_ := (zS _ _).symm.trans H; with_reducible exact H2_) | with_reducible exact H | (rw [hy216]; exact H) | exact H
           have Ny216 := zA hy216
           clear hy216
           have H' := zA H
           clear H
           go_wp2_with (first | ((with_reducible refine gate_callee (f := 51) rfl ?_); refine goesL_ (some 34) rfl rfl Try.func51 (by kernel_rfl) rfl #[.pointer (some ⟨g, 0, none⟩), .int .i64 3] rfl (by (try simp only [zU, zV, zW]); first | done | rfl | (simp only [zR, zQ]; rfl)) ?_; (with_reducible refine (spec_l01Cur_pick.calls g s0_0 t208 t209 3 t210 t211 t212 w0 _ ?side1 ?side2 A24.out).mono ?_); (case side1 => repeat (first | (with_reducible first | exact HI0.out | apply IsS137.alloc | apply IsS137.drewN | apply IsS137.drew | apply IsS137.set_1 | apply IsS137.set_2 | refine IsS137.far ?_ NB0_194.out _) | exact HI0.out)); (case side2 => repeat (first | (with_reducible first | exact HB.out | apply zC | apply zB | apply zF | refine zE ?_ (IsS137.ge HI0.out) | refine zE ?_ GE194.out) | exact HB.out)); rintro e w26 ⟨rfl, hi, hb, hk⟩; refine ⟨_, rfl, ?_⟩; have n0_ := zA (Kd.N_mono (Kd.N_keep (Kd.N_mono (ok := fun k_ => (((w.heap.size ≤ k_)) ∧ (k_ ≠ gb194 ∧ k_ ≠ g))) (by (with_reducible repeat (first | apply Kd.N_alloc | apply Kd.N_drewN | apply Kd.N_drew)); exact HO_5.out) (fun k_ hk_ => (⟨hk_, hk_.2.2⟩ : _ ∧ k_ ≠ g))) hk (fun _ h => h.2)) (fun _ h => h.1)); have n1_ := zA (KeepBut.blk hk (g' := gb194) (o := .cells #[.int .i64 a1_0, .int .i64 a1_1, .int .i64 a1_2, .int .i64 a1_3, .slice A1_4 l1_4.length c1_4] 26 (0, 0)) (by (with_reducible repeat (first | refine zG ?_ _ | refine zH ?_ | refine zD ?_ _)); exact BK194.out) NB194_0.out (by simp)); have n2_ := zA (KeepBut.trans (by repeat (first | (with_reducible first | exact HK.out | apply zZ | apply yA | apply yB | apply yC | refine yD ?_ GW194.out _) | exact HK.out)) hk (.inl rfl)); have n3_ := zA (hb); have n4_ := zA (hi); clear HO_5; clear BK194; clear HK; clear HB; clear HI0; have HO_5 := n0_; have BK194 := n1_; have HK := n2_; have HB := n3_; have HI0 := n4_; clear n0_ n1_ n2_ n3_ n4_; (try clear hb); (try clear hb2); (try clear hk); (try clear hi)) | ((with_reducible refine gate_dst (N := 37) rfl ?_); refine Kd.R_lit (Kd.int .i64) _ 3 ?hg (N := 37) ?hd (xs := ([x6_1] : List Int)) (inner := [.int .i64 x6_1]) (ok := fun _ => True) (okp := fun _ => True) ?hr ?hp (fun _ hk => hk) trivial (Below.refl _ _) (Nat.le_refl _) (by simp) ?_; (case hd => rfl); (case hg => rfl); (case hr => first | (go_simp; done) | (go_simp; rfl)); (case hp => exact (Reps.one (show Kd.M (Kd.int .i64) _ _ _ x6_1 [.int .i64 x6_1] from rfl) (Reps.none _ _))); intro v214 w27 ho28 hb hg_ hnew_; clear hg_ hnew_; (first | rw [← Ny213.out] at ho28 | (simp only [Int.reduceToNat] at ho28; rw [← Ny213.out] at ho28)); have n0_ := zA (Kd.N_elder' (by (with_reducible repeat (first | apply Kd.N_alloc | apply Kd.N_drewN | apply Kd.N_drew)); exact HO_5.out) (Kd.R_base ho28) hb); have n1_ := zA (Kd.R_lower (Kd.R_newM (M := fun k_ => (w.heap.size ≤ k_)) ho28 (keep_size (w := w) (g := g) (row := none) (by repeat (first | (with_reducible first | exact HK.out | apply zZ | apply yA | apply yB | apply yC | refine yD ?_ GW194.out _) | exact HK.out))) (fun k_ h_ => h_)) (keep_size (w := w) (g := g) (row := none) (by repeat (first | (with_reducible first | exact HK.out | apply zZ | apply yA | apply yB | apply yC | refine yD ?_ GW194.out _) | exact HK.out)))); have n2_ := zA (blk_below (g := gb194) (o := .cells #[.int .i64 a1_0, .int .i64 a1_1, .int .i64 a1_2, .int .i64 a1_3, .slice A1_4 l1_4.length c1_4] 26 (0, 0)) (by (with_reducible repeat (first | refine zG ?_ _ | refine zH ?_ | refine zD ?_ _)); exact BK194.out) hb); have n3_ := zA (IsS137.below (by repeat (first | (with_reducible first | exact HI0.out | apply IsS137.alloc | apply IsS137.drewN | apply IsS137.drew | apply IsS137.set_1 | apply IsS137.set_2 | refine IsS137.far ?_ NB0_194.out _) | exact HI0.out)) hb); have n4_ := zA (KeepBut.trans (by repeat (first | (with_reducible first | exact HK.out | apply zZ | apply yA | apply yB | apply yC | refine yD ?_ GW194.out _) | exact HK.out)) (KeepBut.of_below hb g none) (.inl rfl)); have n5_ := zA (below_step (by repeat (first | (with_reducible first | exact HB.out | apply zC | apply zB | apply zF | refine zE ?_ (IsS137.ge HI0.out) | refine zE ?_ GE194.out) | exact HB.out)) hb); clear HO_5; clear BK194; clear HI0; clear HK; clear HB; have HO_5 := n0_; have HO215 := n1_; have BK194 := n2_; have HI0 := n3_; have HK := n4_; have HB := n5_; clear n0_ n1_ n2_ n3_ n4_ n5_; clear hb ho28; obtain ⟨Ao29, co29, eo29⟩ := Kd.R_slice HO215.out; subst eo29) | ((with_reducible refine gate_builtin (b := .append) (xs := #[.tmp 35, .tmp 42]) rfl ?_); at_builtin; refine Kd.N_append k38 w.heap.size rfl (.tmp 35) (.tmp 42) 27 38 (.agg #[(.slice none 0 0), (.int .i64 0), (.int .i64 0), (.int .i64 0), (.int .i64 0)]) 56 rfl Try.underlying27 info38 rfl (by decide) (by omega) u5 x5_2 (⟨y213, x7_2, x8_20, 0, t210⟩ : S38) [.slice Ao29 y213.length co29, .int .i64 x7_2, .int .i64 x8_20, .int .i64 0, .int .i64 t210] (fun k_ => (w.heap.size ≤ k_) ∧ k_ ≠ gb194 ∧ k_ ≠ g) (fun k_ => ((fun k_ => (w.heap.size ≤ k_) ∧ k_ ≠ gb194 ∧ k_ ≠ g)) k_ ∧ some k_ ≠ (u5 : Value).ownBlock) rfl rfl ?aP (fun _ hk => hk) ?aF ?aO (Below.refl _ _) ?aS ?aL ?_; (case aP => exact (k38_mkF _ _ (⟨y213, x7_2, x8_20, 0, t210⟩ : S38) (yK (zP (ok' := (fun k_ => ((fun k_ => (w.heap.size ≤ k_) ∧ k_ ≠ gb194 ∧ k_ ≠ g)) k_ ∧ some k_ ≠ (u5 : Value).ownBlock)) (IsS137.apart HI0.out (zY (Kd.R_apart' (HO215.out) (Kd.N_typed HO_5.out) (by decide)) BK194.out (by decide)) (by decide)) (fun k_ hk => ⟨⟨hk.1.1.1.1, ⟨hk.1.2, hk.2⟩⟩, hk.1.1.2⟩))).2.1 (Kd.R_F (zP (ok' := (fun k_ => ((fun k_ => (w.heap.size ≤ k_) ∧ k_ ≠ gb194 ∧ k_ ≠ g)) k_ ∧ some k_ ≠ (u5 : Value).ownBlock)) (IsS137.apart HI0.out (zY (Kd.R_apart' (HO215.out) (Kd.N_typed HO_5.out) (by decide)) BK194.out (by decide)) (by decide)) (fun k_ hk => ⟨⟨hk.1.1.1.1, ⟨hk.1.2, hk.2⟩⟩, hk.1.1.2⟩))))); (case aF => exact (fun k_ hk => ⟨(Nat.le_trans (keep_size (w := w) (g := g) (row := none) (by repeat (first | (with_reducible first | exact HK.out | apply zZ | apply yA | apply yB | apply yC | refine yD ?_ GW194.out _) | exact HK.out))) hk), Kd.freshB (g := gb194) (o := .cells #[.int .i64 a1_0, .int .i64 a1_1, .int .i64 a1_2, .int .i64 a1_3, .slice A1_4 l1_4.length c1_4] 26 (0, 0)) (by (with_reducible repeat (first | refine zG ?_ _ | refine zH ?_ | refine zD ?_ _)); exact BK194.out) k_ hk, IsS137.fresh (by repeat (first | (with_reducible first | exact HI0.out | apply IsS137.alloc | apply IsS137.drewN | apply IsS137.drew | apply IsS137.set_1 | apply IsS137.set_2 | refine IsS137.far ?_ NB0_194.out _) | exact HI0.out)) k_ hk⟩)); (case aO => exact (by (with_reducible repeat (first | apply Kd.N_alloc | apply Kd.N_drewN | apply Kd.N_drew)); exact Kd.N_mono HO_5.out (fun _ hk => ⟨hk.1.1, ⟨hk.1.2.1, hk.1.2.2⟩⟩))); (case aS => exact (keep_size (w := w) (g := g) (row := none) (by repeat (first | (with_reducible first | exact HK.out | apply zZ | apply yA | apply yB | apply yC | refine yD ?_ GW194.out _) | exact HK.out)))); (case aL => have := LMc25.out; omega); intro v217 w30 ho hb hg hat; rw [← Ny216.out] at ho; have n0_ := zA (blk_grown (g := gb194) (o := .cells #[.int .i64 a1_0, .int .i64 a1_1, .int .i64 a1_2, .int .i64 a1_3, .slice A1_4 l1_4.length c1_4] 26 (0, 0)) (by (with_reducible repeat (first | refine zG ?_ _ | refine zH ?_ | refine zD ?_ _)); exact BK194.out) hg (Kd.N_ne HO_5.out BK194.out (by decide))); have n1_ := zA (IsS137.grown (by repeat (first | (with_reducible first | exact HI0.out | apply IsS137.alloc | apply IsS137.drewN | apply IsS137.drew | apply IsS137.set_1 | apply IsS137.set_2 | refine IsS137.far ?_ NB0_194.out _) | exact HI0.out)) hg (IsS137.own_neN HI0.out HO_5.out (by decide))); have n2_ := zA (below_weaken (by repeat (first | (with_reducible first | exact HB.out | apply zC | apply zB | apply zF | refine zE ?_ (IsS137.ge HI0.out) | refine zE ?_ GE194.out) | exact HB.out)) HL.out hb); have n3_ := zA (KeepBut.trans (by repeat (first | (with_reducible first | exact HK.out | apply zZ | apply yA | apply yB | apply yC | refine yD ?_ GW194.out _) | exact HK.out)) (KeepBut.of_grown hg g) (Kd.N_base2 HO_5.out)); have n4_ := zA (ho); clear BK194; clear HI0; clear HB; clear HK; clear HO_5; clear HO215; have BK194 := n0_; have HI0 := n1_; have HB := n2_; have HK := n3_; have HO218 := n4_; clear n0_ n1_ n2_ n3_ n4_; clear ho hb hg hat))
           go_loopg [5, 9] kj20 (fun kq v5 v9 w' => ∃ (x5_4 : List (S38)) (x9_4 : Int), v9 = .int .i64 x9_4 ∧ Aside0 (spec_l12DrawScript.l2 kq x5_4 x6_1 x7_2 x8_20 x9_4 s0_0 t211 t212 a1_0 a1_1 a1_2 a1_3 l1_4 = some (r1, r2, r3)) ∧ Aside0 (kq ≤ kj20) ∧ Aside0 (Kd.N k38 38 w' w.heap.size (fun k_ => (w.heap.size ≤ k_) ∧ k_ ≠ gb194 ∧ k_ ≠ g) v5 x5_4) ∧ Aside0 (w'.heap[gb194]? = some (.cells #[.int .i64 a1_0, .int .i64 a1_1, .int .i64 a1_2, .int .i64 a1_3, (.slice A1_4 l1_4.length c1_4)] 26 (0, 0))) ∧ Aside0 (IsS137 w0 w' g s0_0 t211 t212) ∧ Aside0 (KeepBut w w' g none) ∧ Aside0 (Below w0.heap.size w0 w'))
           case atStart => exact ⟨(y216), (t210), (by first | rfl | (simp; done) | (simp [*]; done)), H', ⟨Nat.le_refl _⟩, ⟨by (with_reducible repeat (first | apply Kd.N_alloc | apply Kd.N_drewN | apply Kd.N_drew)); exact HO218.out⟩, ⟨by (with_reducible repeat (first | refine zG ?_ _ | refine zH ?_ | refine zD ?_ _)); exact BK194.out⟩, ⟨by repeat (first | (with_reducible first | exact HI0.out | apply IsS137.alloc | apply IsS137.drewN | apply IsS137.drew | apply IsS137.set_1 | apply IsS137.set_2 | refine IsS137.far ?_ NB0_194.out _) | exact HI0.out)⟩, ⟨by repeat (first | (with_reducible first | exact HK.out | apply zZ | apply yA | apply yB | apply yC | refine yD ?_ GW194.out _) | exact HK.out)⟩, ⟨by repeat (first | (with_reducible first | exact HB.out | apply zC | apply zB | apply zF | refine zE ?_ (IsS137.ge HI0.out) | refine zE ?_ GE194.out) | exact HB.out)⟩⟩
           case round =>
            clear H'
            try clear c1
            try clear c2
            try clear p2
            try clear c4
            try clear c4b0
            try clear c5
            try clear p6
            try clear c11
            try clear c16
            try clear c16b0
            try clear c17
            try clear c19
            try clear c19b0
            try clear c23
            try clear c23b0
            try clear c25
            try clear hcz18_0
            try clear hcz18_1
            try clear hcz18_2
            try clear hcz18_3
            try clear hcz18_4
            try clear hfz18_0
            try clear hfz18_1
            try clear hfz18_2
            try clear hfz18_3
            try clear hfz18_4
            try clear p2
            try clear p6
            obtain ⟨x5_4, x9_4, rfl, HA, HK4, HO_5, BK194, HI0, HK, HB⟩ := hrel
            cases gk with
            | zero => exact absurd HA.out (by simp [spec_l12DrawScript.l2])
            | succ k4 =>
             have H := HA.out
             clear HA
             simp only [spec_l12DrawScript.l2] at H
             by_cases c31 : x9_4 > 0
             ·rw [if_pos c31] at H
              have c31b0 : decide (0 < x9_4) = true := zT c31
              clear c31
              obtain ⟨y219, hy219⟩ : ∃ y_ : List Int, y_ = (([x6_1] : List Int)) := ⟨_, rfl⟩
              replace H : (if x5_4.length < 2513169434916 then (spec_l12DrawScript.l2 k4 (x5_4 ++ [(⟨y219, x7_2, x8_20, wrap64 ((wrap64 (x9_4 - 1)) + 1), wrap64 (x9_4 - 1)⟩ : S38)]) x6_1 x7_2 x8_20 (wrap64 (x9_4 - 1)) s0_0 t211 t212 a1_0 a1_1 a1_2 a1_3 l1_4) else (none)) = some (r1, r2, r3) := by first | (rw [hy219]; with_reducible exact H) | (have H2_ := (zS _ _).symm.trans H; rw [hy219]; with_reducible exact H2_) | (have H2_ := (zS _ _).symm.trans H; with_reducible exact H2_) | with_reducible exact H | (rw [hy219]; exact H) | exact H
              have Ny219 := zA hy219
              clear hy219
              by_cases c32 : x5_4.length < 2513169434916
              ·rw [if_pos c32] at H
               have LMc32 := zA c32
               clear c32
               obtain ⟨y222, hy222⟩ : ∃ y_ : List (S38), y_ = (x5_4 ++ [(⟨y219, x7_2, x8_20, wrap64 ((wrap64 (x9_4 - 1)) + 1), wrap64 (x9_4 - 1)⟩ : S38)]) := ⟨_, rfl⟩
               replace H : (spec_l12DrawScript.l2 k4 y222 x6_1 x7_2 x8_20 (wrap64 (x9_4 - 1)) s0_0 t211 t212 a1_0 a1_1 a1_2 a1_3 l1_4) = some (r1, r2, r3) := by first | (rw [hy222]; with_reducible exact H) | (have H2_ := (zS _ _).symm.trans H; rw [hy222]; with_reducible exact H2_) | (have H2_ := (zS _ _).symm.trans H; with_reducible exact H2_) | with_reducible exact H | (rw [hy222]; exact H) | exact H
               have Ny222 := zA hy222
               clear hy222
               have H' := zA H
               clear H
               go_wp2_with (first | ((with_reducible refine gate_dst (N := 50) rfl ?_); refine Kd.R_lit (Kd.int .i64) _ 3 ?hg (N := 50) ?hd (xs := ([x6_1] : List Int)) (inner := [.int .i64 x6_1]) (ok := fun _ => True) (okp := fun _ => True) ?hr ?hp (fun _ hk => hk) trivial (Below.refl _ _) (Nat.le_refl _) (by simp) ?_; (case hd => rfl); (case hg => rfl); (case hr => first | (go_simp; done) | (go_simp; rfl)); (case hp => exact (Reps.one (show Kd.M (Kd.int .i64) _ _ _ x6_1 [.int .i64 x6_1] from rfl) (Reps.none _ _))); intro v220 w33 ho34 hb hg_ hnew_; clear hg_ hnew_; (first | rw [← Ny219.out] at ho34 | (simp only [Int.reduceToNat] at ho34; rw [← Ny219.out] at ho34)); have n0_ := zA (Kd.N_elder' (by (with_reducible repeat (first | apply Kd.N_alloc | apply Kd.N_drewN | apply Kd.N_drew)); exact HO_5.out) (Kd.R_base ho34) hb); have n1_ := zA (Kd.R_lower (Kd.R_newM (M := fun k_ => (w.heap.size ≤ k_)) ho34 (keep_size (w := w) (g := g) (row := none) (by repeat (first | (with_reducible first | exact HK.out | apply zZ | apply yA | apply yB | apply yC | refine yD ?_ GW194.out _) | exact HK.out))) (fun k_ h_ => h_)) (keep_size (w := w) (g := g) (row := none) (by repeat (first | (with_reducible first | exact HK.out | apply zZ | apply yA | apply yB | apply yC | refine yD ?_ GW194.out _) | exact HK.out)))); have n2_ := zA (blk_below (g := gb194) (o := .cells #[.int .i64 a1_0, .int .i64 a1_1, .int .i64 a1_2, .int .i64 a1_3, .slice A1_4 l1_4.length c1_4] 26 (0, 0)) (by (with_reducible repeat (first | refine zG ?_ _ | refine zH ?_ | refine zD ?_ _)); exact BK194.out) hb); have n3_ := zA (IsS137.below (by repeat (first | (with_reducible first | exact HI0.out | apply IsS137.alloc | apply IsS137.drewN | apply IsS137.drew | apply IsS137.set_1 | apply IsS137.set_2 | refine IsS137.far ?_ NB0_194.out _) | exact HI0.out)) hb); have n4_ := zA (KeepBut.trans (by repeat (first | (with_reducible first | exact HK.out | apply zZ | apply yA | apply yB | apply yC | refine yD ?_ GW194.out _) | exact HK.out)) (KeepBut.of_below hb g none) (.inl rfl)); have n5_ := zA (below_step (by repeat (first | (with_reducible first | exact HB.out | apply zC | apply zB | apply zF | refine zE ?_ (IsS137.ge HI0.out) | refine zE ?_ GE194.out) | exact HB.out)) hb); clear HO_5; clear BK194; clear HI0; clear HK; clear HB; have HO_5 := n0_; have HO221 := n1_; have BK194 := n2_; have HI0 := n3_; have HK := n4_; have HB := n5_; clear n0_ n1_ n2_ n3_ n4_ n5_; clear hb ho34; obtain ⟨Ao35, co35, eo35⟩ := Kd.R_slice HO221.out; subst eo35) | ((with_reducible refine gate_builtin (b := .append) (xs := #[.tmp 48, .tmp 57]) rfl ?_); at_builtin; refine Kd.N_append k38 w.heap.size rfl (.tmp 48) (.tmp 57) 27 38 (.agg #[(.slice none 0 0), (.int .i64 0), (.int .i64 0), (.int .i64 0), (.int .i64 0)]) 56 rfl Try.underlying27 info38 rfl (by decide) (by omega) u5 x5_4 (⟨y219, x7_2, x8_20, wrap64 ((wrap64 (x9_4 - 1)) + 1), wrap64 (x9_4 - 1)⟩ : S38) [.slice Ao35 y219.length co35, .int .i64 x7_2, .int .i64 x8_20, .int .i64 (wrap64 ((wrap64 (x9_4 - 1)) + 1)), .int .i64 (wrap64 (x9_4 - 1))] (fun k_ => (w.heap.size ≤ k_) ∧ k_ ≠ gb194 ∧ k_ ≠ g) (fun k_ => ((fun k_ => (w.heap.size ≤ k_) ∧ k_ ≠ gb194 ∧ k_ ≠ g)) k_ ∧ some k_ ≠ (u5 : Value).ownBlock) rfl rfl ?aP (fun _ hk => hk) ?aF ?aO (Below.refl _ _) ?aS ?aL ?_; (case aP => exact (k38_mkF _ _ (⟨y219, x7_2, x8_20, wrap64 ((wrap64 (x9_4 - 1)) + 1), wrap64 (x9_4 - 1)⟩ : S38) (yK (zP (ok' := (fun k_ => ((fun k_ => (w.heap.size ≤ k_) ∧ k_ ≠ gb194 ∧ k_ ≠ g)) k_ ∧ some k_ ≠ (u5 : Value).ownBlock)) (IsS137.apart HI0.out (zY (Kd.R_apart' (HO221.out) (Kd.N_typed HO_5.out) (by decide)) BK194.out (by decide)) (by decide)) (fun k_ hk => ⟨⟨hk.1.1.1.1, ⟨hk.1.2, hk.2⟩⟩, hk.1.1.2⟩))).2.1 (Kd.R_F (zP (ok' := (fun k_ => ((fun k_ => (w.heap.size ≤ k_) ∧ k_ ≠ gb194 ∧ k_ ≠ g)) k_ ∧ some k_ ≠ (u5 : Value).ownBlock)) (IsS137.apart HI0.out (zY (Kd.R_apart' (HO221.out) (Kd.N_typed HO_5.out) (by decide)) BK194.out (by decide)) (by decide)) (fun k_ hk => ⟨⟨hk.1.1.1.1, ⟨hk.1.2, hk.2⟩⟩, hk.1.1.2⟩))))); (case aF => exact (fun k_ hk => ⟨(Nat.le_trans (keep_size (w := w) (g := g) (row := none) (by repeat (first | (with_reducible first | exact HK.out | apply zZ | apply yA | apply yB | apply yC | refine yD ?_ GW194.out _) | exact HK.out))) hk), Kd.freshB (g := gb194) (o := .cells #[.int .i64 a1_0, .int .i64 a1_1, .int .i64 a1_2, .int .i64 a1_3, .slice A1_4 l1_4.length c1_4] 26 (0, 0)) (by (with_reducible repeat (first | refine zG ?_ _ | refine zH ?_ | refine zD ?_ _)); exact BK194.out) k_ hk, IsS137.fresh (by repeat (first | (with_reducible first | exact HI0.out | apply IsS137.alloc | apply IsS137.drewN | apply IsS137.drew | apply IsS137.set_1 | apply IsS137.set_2 | refine IsS137.far ?_ NB0_194.out _) | exact HI0.out)) k_ hk⟩)); (case aO => exact (by (with_reducible repeat (first | apply Kd.N_alloc | apply Kd.N_drewN | apply Kd.N_drew)); exact Kd.N_mono HO_5.out (fun _ hk => ⟨hk.1.1, ⟨hk.1.2.1, hk.1.2.2⟩⟩))); (case aS => exact (keep_size (w := w) (g := g) (row := none) (by repeat (first | (with_reducible first | exact HK.out | apply zZ | apply yA | apply yB | apply yC | refine yD ?_ GW194.out _) | exact HK.out)))); (case aL => have := LMc32.out; omega); intro v223 w36 ho hb hg hat; rw [← Ny222.out] at ho; have n0_ := zA (blk_grown (g := gb194) (o := .cells #[.int .i64 a1_0, .int .i64 a1_1, .int .i64 a1_2, .int .i64 a1_3, .slice A1_4 l1_4.length c1_4] 26 (0, 0)) (by (with_reducible repeat (first | refine zG ?_ _ | refine zH ?_ | refine zD ?_ _)); exact BK194.out) hg (Kd.N_ne HO_5.out BK194.out (by decide))); have n1_ := zA (IsS137.grown (by repeat (first | (with_reducible first | exact HI0.out | apply IsS137.alloc | apply IsS137.drewN | apply IsS137.drew | apply IsS137.set_1 | apply IsS137.set_2 | refine IsS137.far ?_ NB0_194.out _) | exact HI0.out)) hg (IsS137.own_neN HI0.out HO_5.out (by decide))); have n2_ := zA (below_weaken (by repeat (first | (with_reducible first | exact HB.out | apply zC | apply zB | apply zF | refine zE ?_ (IsS137.ge HI0.out) | refine zE ?_ GE194.out) | exact HB.out)) HL.out hb); have n3_ := zA (KeepBut.trans (by repeat (first | (with_reducible first | exact HK.out | apply zZ | apply yA | apply yB | apply yC | refine yD ?_ GW194.out _) | exact HK.out)) (KeepBut.of_grown hg g) (Kd.N_base2 HO_5.out)); have n4_ := zA (ho); clear BK194; clear HI0; clear HB; clear HK; clear HO_5; clear HO221; have BK194 := n0_; have HI0 := n1_; have HB := n2_; have HK := n3_; have HO224 := n4_; clear n0_ n1_ n2_ n3_ n4_; clear ho hb hg hat))
               go_roundg k4
               case measure => have := HK1.out; have := HK2.out; have := HJ20.out; have := HK4.out; omega
               case rel => exact ⟨(y222), (wrap64 (x9_4 - 1)), (by first | rfl | (simp; done) | (simp [*]; done)), H', ⟨by have := HK1.out; have := HK2.out; have := HJ20.out; have := HK4.out; omega⟩, ⟨by (with_reducible repeat (first | apply Kd.N_alloc | apply Kd.N_drewN | apply Kd.N_drew)); exact HO224.out⟩, ⟨by (with_reducible repeat (first | refine zG ?_ _ | refine zH ?_ | refine zD ?_ _)); exact BK194.out⟩, ⟨by repeat (first | (with_reducible first | exact HI0.out | apply IsS137.alloc | apply IsS137.drewN | apply IsS137.drew | apply IsS137.set_1 | apply IsS137.set_2 | refine IsS137.far ?_ NB0_194.out _) | exact HI0.out)⟩, ⟨by repeat (first | (with_reducible first | exact HK.out | apply zZ | apply yA | apply yB | apply yC | refine yD ?_ GW194.out _) | exact HK.out)⟩, ⟨by repeat (first | (with_reducible first | exact HB.out | apply zC | apply zB | apply zF | refine zE ?_ (IsS137.ge HI0.out) | refine zE ?_ GE194.out) | exact HB.out)⟩⟩
              ·rw [if_neg c32] at H
               exact absurd H (by simp)
             ·rw [if_neg c31] at H
              have c31b0 : decide (0 < x9_4) = false := decide_eq_false c31
              clear c31
              have H' := zA H
              clear H
              go_wp2
              go_roundg k4
              case measure => have := HK1.out; have := HK2.out; have := HJ20.out; have := HK4.out; omega
              case rel => exact ⟨(x5_4), (wrap64 (x8_20 + 1)), (t211), (t212), (by first | rfl | (simp; done) | (simp [*]; done)), H', ⟨by have := HK1.out; have := HK2.out; have := HJ20.out; have := HK4.out; omega⟩, ⟨by (with_reducible repeat (first | apply Kd.N_alloc | apply Kd.N_drewN | apply Kd.N_drew)); exact HO_5.out⟩, ⟨by (with_reducible repeat (first | refine zG ?_ _ | refine zH ?_ | refine zD ?_ _)); exact BK194.out⟩, ⟨by repeat (first | (with_reducible first | exact HI0.out | apply IsS137.alloc | apply IsS137.drewN | apply IsS137.drew | apply IsS137.set_1 | apply IsS137.set_2 | refine IsS137.far ?_ NB0_194.out _) | exact HI0.out)⟩, ⟨by repeat (first | (with_reducible first | exact HK.out | apply zZ | apply yA | apply yB | apply yC | refine yD ?_ GW194.out _) | exact HK.out)⟩, ⟨by repeat (first | (with_reducible first | exact HB.out | apply zC | apply zB | apply zF | refine zE ?_ (IsS137.ge HI0.out) | refine zE ?_ GE194.out) | exact HB.out)⟩⟩
          ·rw [if_neg c25] at H
           exact absurd H (by simp)
       ·rw [if_neg c19] at H
        have c19b0 : decide (x7_2 < 64) = false := decide_eq_false c19
        clear c19
        have H' := zA H
        clear H
        go_wp2
        go_roundg k2
        case measure => have := HK1.out; have := HK2.out; omega
        case rel => exact ⟨(x5_2), (wrap64 (x6_1 + 1)), (x1001_2), (x1002_2), (by first | rfl | (simp; done) | (simp [*]; done)), H', ⟨by have := HK1.out; have := HK2.out; omega⟩, ⟨by (with_reducible repeat (first | apply Kd.N_alloc | apply Kd.N_drewN | apply Kd.N_drew)); exact HO_5.out⟩, ⟨by (with_reducible repeat (first | refine zG ?_ _ | refine zH ?_ | refine zD ?_ _)); exact BK194.out⟩, ⟨by repeat (first | (with_reducible first | exact HI0.out | apply IsS137.alloc | apply IsS137.drewN | apply IsS137.drew | apply IsS137.set_1 | apply IsS137.set_2 | refine IsS137.far ?_ NB0_194.out _) | exact HI0.out)⟩, ⟨by repeat (first | (with_reducible first | exact HK.out | apply zZ | apply yA | apply yB | apply yC | refine yD ?_ GW194.out _) | exact HK.out)⟩, ⟨by repeat (first | (with_reducible first | exact HB.out | apply zC | apply zB | apply zF | refine zE ?_ (IsS137.ge HI0.out) | refine zE ?_ GE194.out) | exact HB.out)⟩⟩
    ·rw [if_neg c16] at H
     have c16b0 : decide (x6_1 < (l1_4.length : Int)) = false := decide_eq_false c16
     clear c16
     simp only [Option.some.injEq, Prod.mk.injEq] at H
     obtain ⟨rfl, rfl, rfl⟩ := H
     have hnb37 := NB194_0.out
     have hnc37 := NB0_194.out
     have hcz38_0 : wr.cell? ⟨gb194, 0, none⟩ = some (.int .i64 a1_0) := (zK BK194.out 0).trans rfl
     have hcz38_1 : wr.cell? ⟨gb194, 1, none⟩ = some (.int .i64 a1_1) := (zK BK194.out 1).trans rfl
     have hcz38_2 : wr.cell? ⟨gb194, 2, none⟩ = some (.int .i64 a1_2) := (zK BK194.out 2).trans rfl
     have hcz38_3 : wr.cell? ⟨gb194, 3, none⟩ = some (.int .i64 a1_3) := (zK BK194.out 3).trans rfl
     have hcz38_4 : wr.cell? ⟨gb194, 4, none⟩ = some (.slice A1_4 l1_4.length c1_4) := (zK BK194.out 4).trans rfl
     have hfz38_0 := zJ BK194.out 0
     have hfz38_1 := zJ BK194.out 1
     have hfz38_2 := zJ BK194.out 2
     have hfz38_3 := zJ BK194.out 3
     have hfz38_4 := zJ BK194.out 4
     go_wp2
     go_ret
     exact ⟨_, by first | rfl | (simp [errW_none, errW_some] <;> rfl) | (simp [*, errW_none, errW_some] <;> rfl), by (with_reducible repeat (first | apply Kd.N_alloc | apply Kd.N_drewN | apply Kd.N_drew)); exact Kd.N_mono HO_5.out (fun _ hk => hk.1), by repeat (first | (with_reducible first | exact HI0.out | apply IsS137.alloc | apply IsS137.drewN | apply IsS137.drew | apply IsS137.set_1 | apply IsS137.set_2 | refine IsS137.far ?_ NB0_194.out _) | exact HI0.out), by repeat (first | (with_reducible first | exact HB.out | apply zC | apply zB | apply zF | refine zE ?_ (IsS137.ge HI0.out) | refine zE ?_ GE194.out) | exact HB.out), by repeat (first | (with_reducible first | exact HK.out | apply zZ | apply yA | apply yB | apply yC | refine yD ?_ GW194.out _) | exact HK.out)⟩
/-- a script that fits: so many scans at most, four components in one at most -/
def FitS (L : Nat) (out : List S38) : Prop := out.length ≤ L ∧ ∀ s ∈ out, s.f0.length ≤ 5
theorem FitS.push {L : Nat} {out : List S38} (h : FitS L out) (s : S38) (hs : s.f0.length ≤ 5) : FitS (L + 1) (out ++ [s]) :=
 ⟨by rw [zX, List.length_singleton]; have := h.1; omega, fun x hx => by
  rcases List.mem_append.1 hx with hx | hx
  ·exact h.2 x hx
  ·rw [List.mem_singleton.1 hx]; exact hs⟩
theorem FitS.up {L L' : Nat} {out : List S38} (h : FitS L out) (hL : L ≤ L') : FitS L' out := ⟨Nat.le_trans h.1 hL, h.2⟩
def DrawnS (c : List Int) (L m : Nat) (q : List S38 × Int × Int) : Prop := FitS L q.1 ∧ CurAt c m q.2.1 q.2.2
theorem FitS.script (p w h r : Int) (l : List S102) (kind : Int) : FitS 100 (scriptForM p w h r l kind) := by
 unfold scriptForM
 split
 ·rename_i hq
  obtain ⟨n1, n4⟩ := frameOk_len hq.1
  have hn : l.length = 1 ∨ l.length = 2 ∨ l.length = 3 ∨ l.length = 4 := by omega
  unfold scriptM FitS
  rcases hn with e | e | e | e <;> rw [e] <;> (repeat' split) <;> exact ⟨by decide, by decide⟩
 ·exact ⟨Nat.zero_le _, fun x hx => by cases hx⟩
theorem spec_l12DrawScript.l2_ev (c : List Int) (p w h r : Int) (l : List S102) (x6 x7 x8 a s : Int) (P : List S38 × Int × Int → Prop) : ∀ (n L : Nat) (out : List S38), FitS L out → L + n ≤ 100000 →
  (∀ out', FitS (L + n) out' → EvP (fun k => spec_l12DrawScript.l1 k out' x6 (wrap64 (x8 + 1)) c a s p w h r l) P) → EvP (fun k => spec_l12DrawScript.l2 k out x6 x7 x8 (n : Int) c a s p w h r l) P := by
 intro n
 induction n with
 | zero =>
  intro L out hf hL k
  exact EvP.step (fun _ => by rw [spec_l12DrawScript.l2]) (EvP.ng (by omega) (k out hf))
 | succ n ih =>
  intro L out hf hL k
  refine EvP.step (fun _ => by rw [spec_l12DrawScript.l2]) ?_
  rw [show wrap64 (((n + 1 : Nat) : Int) - 1) = (n : Int) by rw [wrap_in _ (by omega) (by omega)]; omega]
  have := hf.1
  exact EvP.ip (by omega) (EvP.ip (by omega) (ih (L + 1) _ (hf.push _ (by simp)) (by omega) (fun o ho => k o (ho.up (by omega)))))
theorem spec_l12DrawScript.j2_ev {c : List Int} (p w h r : Int) (l : List S102) (x6 x7 x8 : Int) {m : Nat} {a s : Int} (hc : CurAt c m a s) (hm : m ≤ 100000000) (P : List S38 × Int × Int → Prop) (L : Nat) (out : List S38) (hf : FitS L out) (hL : L + 3 ≤ 100000)
  (k : ∀ out' a' s', FitS (L + 3) out' → CurAt c (m + 2) a' s' → EvP (fun k => spec_l12DrawScript.l1 k out' x6 (wrap64 (x8 + 1)) c a' s' p w h r l) P) : EvP (fun k => spec_l12DrawScript.j2 k out x6 x7 x8 c a s p w h r l) P := by
 refine EvP.step (fun _ => by rw [spec_l12DrawScript.j2]) ?_
 refine hc.pick (by omega) 3 (fun v a1 s1 v0 v3 c1 => ?_)
 obtain ⟨n, rfl⟩ : ∃ n : Nat, v = (n : Int) := ⟨v.toNat, by omega⟩
 have := hf.1
 exact EvP.ip (by omega) (spec_l12DrawScript.l2_ev c p w h r l x6 x7 x8 a1 s1 P n (L + 1) _ (hf.push _ (by simp)) (by omega) (fun o ho => k o a1 s1 (ho.up (by omega)) c1))
theorem spec_l12DrawScript.l1_ev {c : List Int} (p w h r : Int) (l : List S102) (x6 : Int) (P : List S38 × Int × Int → Prop) : ∀ (d m L : Nat) (x7 a s : Int) (out : List S38), CurAt c m a s → m + 4 * d ≤ 100000000 → 0 ≤ x7 → x7 ≤ 64 → 64 ≤ x7 + d → FitS L out → L + 3 * d ≤ 100000 →
  (∀ out' a' s', FitS (L + 3 * d) out' → CurAt c (m + 4 * d) a' s' → EvP (fun k => spec_l12DrawScript.l0 k out' (wrap64 (x6 + 1)) c a' s' p w h r l) P) → EvP (fun k => spec_l12DrawScript.l1 k out x6 x7 c a s p w h r l) P := by
 intro d
 induction d with
 | zero =>
  intro m L x7 a s out hc hm h0 h1 h2 hf hL k
  exact EvP.step (fun _ => by rw [spec_l12DrawScript.l1]) (EvP.ng (by omega) (k out a s hf hc))
 | succ d ih =>
  intro m L x7 a s out hc hm h0 h1 h2 hf hL k
  refine EvP.step (fun _ => by rw [spec_l12DrawScript.l1]) ?_
  by_cases hlt : x7 < 64
  ·refine EvP.ip hlt ?_
   refine hc.pick (by omega) 64 (fun v a1 s1 v0 v3 c1 => ?_)
   have e : wrap64 (x7 + v) = x7 + v := wrap_in _ (by omega) (by omega)
   rw [show wrap64 (x7 + (v, a1, s1).1) = x7 + v from e]
   refine EvP.either (fun hg => ?_) (fun hg => ?_)
   ·refine spec_l12DrawScript.j2_ev p w h r l x6 x7 63 c1 (by omega) P L out hf (by omega) (fun o a2 s2 ho c2 => ?_)
    rw [show wrap64 ((63 : Int) + 1) = 64 by rw [wrap_in _ (by omega) (by omega)]; rfl]
    exact ih (m + 2 + 2) (L + 3) 64 a2 s2 o c2 (by omega) (by omega) (by omega) (by omega) ho (by omega) (fun o2 a3 s3 ho2 c3 => k o2 a3 s3 (ho2.up (by omega)) (c3.up (by omega)))
   ·refine spec_l12DrawScript.j2_ev p w h r l x6 x7 (x7 + v) c1 (by omega) P L out hf (by omega) (fun o a2 s2 ho c2 => ?_)
    rw [wrap_in (x7 + v + 1) (by omega) (by omega)]
    exact ih (m + 2 + 2) (L + 3) (x7 + v + 1) a2 s2 o c2 (by omega) (by omega) (by omega) (by omega) ho (by omega) (fun o2 a3 s3 ho2 c3 => k o2 a3 s3 (ho2.up (by omega)) (c3.up (by omega)))
  ·exact EvP.ng hlt (k out a s (hf.up (by omega)) (hc.up (by omega)))
set_option maxRecDepth 10000 in
theorem spec_l12DrawScript.l0_ev {c : List Int} (p w h r : Int) (l : List S102) : ∀ (d i m L : Nat) (a s : Int) (out : List S38), i + d = l.length → l.length ≤ 100 → CurAt c m a s → m + 256 * d ≤ 10000000 → FitS L out → L + 192 * d ≤ 90000 →
  EvP (fun k => spec_l12DrawScript.l0 k out (i : Int) c a s p w h r l) (DrawnS c (L + 192 * d) (m + 256 * d)) := by
 intro d
 induction d with
 | zero =>
  intro i m L a s out hi hl hc hm hf hL
  exact EvP.step (fun _ => by rw [spec_l12DrawScript.l0]) (EvP.ng (by omega) (EvP.now ⟨hf, hc⟩))
 | succ d ih =>
  intro i m L a s out hi hl hc hm hf hL
  refine EvP.step (fun _ => by rw [spec_l12DrawScript.l0]) (EvP.ip (by omega) ?_)
  refine spec_l12DrawScript.l1_ev p w h r l (i : Int) _ 64 m L 0 a s out hc (by omega) (by omega) (by omega) (by omega) hf (by omega) (fun o a2 s2 ho c2 => ?_)
  rw [wrap_succ i (by omega)]
  exact (ih (i + 1) (m + 4 * 64) (L + 3 * 64) a2 s2 o (by omega) hl c2 (by omega) ho (by omega)).mono (fun q hq => ⟨hq.1.up (by omega), hq.2.up (by omega)⟩)
theorem spec_l12DrawScript.ev {c : List Int} {m : Nat} {a s : Int} (hc : CurAt c m a s) (hm : m ≤ 1000000) (p w h r : Int) (l : List S102) (hl : l.length ≤ 5) : EvP (fun k => spec_l12DrawScript.f k c a s p w h r l) (DrawnS c 1000 (m + 2000)) := by
 unfold spec_l12DrawScript.f
 refine hc.pick (by omega) 3 (fun v a1 s1 _ _ c1 => ?_)
 refine EvP.either (fun _ => ?_) (fun _ => ?_)
 ·refine c1.pick (by omega) 3 (fun z a2 s2 _ _ c2 => ?_)
  exact EvP.bind (EvP.of (P := fun q => q = scriptForM p w h r l z) (spec_ScriptFor.ev p w h r l z) rfl) (fun q hq => EvP.now ⟨by show FitS 1000 q; rw [hq]; exact (FitS.script p w h r l z).up (by decide), c2.up (by omega)⟩)
 ·exact (spec_l12DrawScript.l0_ev p w h r l l.length 0 (m + 2) 0 a1 s1 [] (Nat.zero_add _) (by omega) c1 (by omega) ⟨Nat.le_refl _, fun x hx => by cases hx⟩ (by omega)).mono (fun q hq => ⟨hq.1.up (by omega), hq.2.up (by omega)⟩)
end Go.Proofs.Ytilimpjcdeeaiaa.G


namespace Go.Proofs.Ytilimpjcdeeaiaa.G
open Go.RowKit Go.Proofs.YtilimpjcdeeaiaaW.PrintWords Go.Proofs.YtilimpjcdeeaiaaW.PrintLast Go.Proofs.YtilimpjcdeeaiaaW.PrintMore
attribute [local go_sem] max2_int min2_int max_two min_two max_three min_three max_four min_four   -- for this text's walks alone
def spec_l12CopyScan.f (l0_0 : List Int) (a0_1 : Int) (a0_2 : Int) (a0_3 : Int) (a0_4 : Int) : Option (List Int × Int × Int × Int × Int) := (some (([] : List Int) : List Int)).bind fun y227 => (if y227.length + l0_0.length < 17592186044416 then (some ((y227 ++ l0_0), a0_1, a0_2, a0_3, a0_4)) else (none))
set_option maxHeartbeats 8000000 in
set_option maxRecDepth 100000 in
theorem spec_l12CopyScan.calls (A0_0 : Option Addr) (c0_0 : Nat) (l0_0 : List Int) (a0_1 : Int) (a0_2 : Int) (a0_3 : Int) (a0_4 : Int) (r1 : List Int) (r2 : Int) (r3 : Int) (r4 : Int) (r5 : Int) (w : World) (hr0_0 : Kd.C (Kd.int .i64) w A0_0 l0_0.length l0_0) (hc0_0 : l0_0.length ≤ c0_0) (h : spec_l12CopyScan.f l0_0 a0_1 a0_2 a0_3 a0_4 = some (r1, r2, r3, r4, r5)) :
  Calls Try.prog 106 #[.agg #[.slice A0_0 l0_0.length c0_0, .int .i64 a0_1, .int .i64 a0_2, .int .i64 a0_3, .int .i64 a0_4]] w fun e w' => ∃ v0_ : Value, e = .returned (.agg #[v0_, .int .i64 r2, .int .i64 r3, .int .i64 r4, .int .i64 r5]) ∧ Kd.R (Kd.int .i64) 3 w' w.heap.size (fun _ => True) v0_ r1 ∧ Below w.heap.size w w' := by
 have hu38 := Try.underlying38
 have HR0_0 := zA hr0_0
 have HC0_0 := zA hc0_0
 clear hr0_0 hc0_0
 have HB := zA (Below.refl w.heap.size w)
 have H : ((some (([] : List Int) : List Int)).bind fun y227 => (if y227.length + l0_0.length < 17592186044416 then (some ((y227 ++ l0_0), a0_1, a0_2, a0_3, a0_4)) else (none))) = some (r1, r2, r3, r4, r5) := h
 clear h
 obtain ⟨y227, hy227⟩ : ∃ y_ : List Int, y_ = (([] : List Int)) := ⟨_, rfl⟩
 replace H : (if y227.length + l0_0.length < 17592186044416 then (some ((y227 ++ l0_0), a0_1, a0_2, a0_3, a0_4)) else (none)) = some (r1, r2, r3, r4, r5) := by first | (rw [hy227]; with_reducible exact H) | (have H2_ := (zS _ _).symm.trans H; rw [hy227]; with_reducible exact H2_) | (have H2_ := (zS _ _).symm.trans H; with_reducible exact H2_) | with_reducible exact H | (rw [hy227]; exact H) | exact H
 have Ny227 := zA hy227
 clear hy227
 by_cases c2 : y227.length + l0_0.length < 17592186044416
 ·rw [if_pos c2] at H
  have LMc2 := zA c2
  clear c2
  obtain ⟨y230, hy230⟩ : ∃ y_ : List Int, y_ = (y227 ++ l0_0) := ⟨_, rfl⟩
  replace H : (some (y230, a0_1, a0_2, a0_3, a0_4)) = some (r1, r2, r3, r4, r5) := by first | (rw [hy230]; with_reducible exact H) | (have H2_ := (zS _ _).symm.trans H; rw [hy230]; with_reducible exact H2_) | (have H2_ := (zS _ _).symm.trans H; with_reducible exact H2_) | with_reducible exact H | (rw [hy230]; exact H) | exact H
  have Ny230 := zA hy230
  clear hy230
  simp only [Option.some.injEq, Prod.mk.injEq] at H
  obtain ⟨rfl, rfl, rfl, rfl, rfl⟩ := H
  go_enter Try.func106, Try.ntmps106
  go_wp2_with (first | ((with_reducible refine gate_dst (N := 1) rfl ?_); refine box_event ?hg (N := 1) ?hd (cs := #[.slice A0_0 l0_0.length c0_0, .int .i64 a0_1, .int .i64 a0_2, .int .i64 a0_3, .int .i64 a0_4]) (t := 38) ?hr ?_; (case hd => rfl); (case hg => rfl); (case hr => first | (go_simp; done) | (go_simp; rfl)); intro gb225 hg w3 hbox hb; have n0_ := zA (below_step (by repeat (first | (with_reducible first | exact HB.out | apply zC | apply zB | apply zF) | exact HB.out)) hb); have n1_ := zA (hbox); have n2_ := zA ((by rw [hg]; exact (zL (by repeat (first | (with_reducible first | exact HB.out | apply zC | apply zB | apply zF) | exact HB.out))) : w.heap.size ≤ gb225)); have n3_ := zA ((by rw [hg]; exact (zL (by repeat (first | (with_reducible first | exact HB.out | apply zC | apply zB | apply zF) | exact HB.out))) : w.heap.size ≤ gb225)); clear HB; have HB := n0_; have BK225 := n1_; have GW225 := n2_; have GE225 := n3_; clear n0_ n1_ n2_ n3_; clear hb hbox hg) | ((with_reducible refine gate_dst (N := 2) rfl ?_); refine box_event ?hg (N := 2) ?hd (cs := #[.slice none 0 0, .int .i64 0, .int .i64 0, .int .i64 0, .int .i64 0]) (t := 38) ?hr ?_; (case hd => rfl); (case hg => rfl); (case hr => first | (go_simp; done) | (go_simp; rfl)); intro gb226 hg w4 hbox hb; have n0_ := zA (blk_below (g := gb225) (o := .cells #[.slice A0_0 l0_0.length c0_0, .int .i64 a0_1, .int .i64 a0_2, .int .i64 a0_3, .int .i64 a0_4] 38 (0, 0)) (by (with_reducible repeat (first | refine zG ?_ _ | refine zH ?_ | refine zD ?_ _)); exact BK225.out) hb); have n1_ := zA (below_step (by repeat (first | (with_reducible first | exact HB.out | apply zC | apply zB | apply zF | refine zE ?_ GE225.out) | exact HB.out)) hb); have n2_ := zA (hbox); have n3_ := zA ((by rw [hg]; exact (zL (by repeat (first | (with_reducible first | exact HB.out | apply zC | apply zB | apply zF | refine zE ?_ GE225.out) | exact HB.out))) : w.heap.size ≤ gb226)); have n4_ := zA ((by rw [hg]; exact (zL (by repeat (first | (with_reducible first | exact HB.out | apply zC | apply zB | apply zF | refine zE ?_ GE225.out) | exact HB.out))) : w.heap.size ≤ gb226)); have n5_ := zA ((by rw [hg]; exact Nat.ne_of_lt (blk_lt (g := gb225) (o := .cells #[.slice A0_0 l0_0.length c0_0, .int .i64 a0_1, .int .i64 a0_2, .int .i64 a0_3, .int .i64 a0_4] 38 (0, 0)) (by (with_reducible repeat (first | refine zG ?_ _ | refine zH ?_ | refine zD ?_ _)); exact BK225.out)) : gb225 ≠ gb226)); have n6_ := zA ((by rw [hg]; exact Nat.ne_of_gt (blk_lt (g := gb225) (o := .cells #[.slice A0_0 l0_0.length c0_0, .int .i64 a0_1, .int .i64 a0_2, .int .i64 a0_3, .int .i64 a0_4] 38 (0, 0)) (by (with_reducible repeat (first | refine zG ?_ _ | refine zH ?_ | refine zD ?_ _)); exact BK225.out)) : gb226 ≠ gb225)); clear BK225; clear HB; have BK225 := n0_; have HB := n1_; have BK226 := n2_; have GW226 := n3_; have GE226 := n4_; have NB225_226 := n5_; have NB226_225 := n6_; clear n0_ n1_ n2_ n3_ n4_ n5_ n6_; clear hb hbox hg) | ((with_reducible refine gate_dst (N := 3) rfl ?_); refine Kd.R_lit (Kd.int .i64) _ 3 ?hg (N := 3) ?hd (xs := ([] : List Int)) (inner := []) (ok := fun _ => True) (okp := fun _ => True) ?hr ?hp (fun _ hk => hk) trivial (Below.refl _ _) (Nat.le_refl _) (by simp) ?_; (case hd => rfl); (case hg => rfl); (case hr => first | (go_simp; done) | (go_simp; rfl)); (case hp => exact (Reps.none _ _)); intro v228 w5 ho6 hb hg_ hnew_; clear hg_ hnew_; (first | rw [← Ny227.out] at ho6 | (simp only [Int.reduceToNat] at ho6; rw [← Ny227.out] at ho6)); have n0_ := zA (Kd.R_lower ho6 (zL (by repeat (first | (with_reducible first | exact HB.out | apply zC | apply zB | apply zF | refine zE ?_ GE225.out | refine zE ?_ GE226.out) | exact HB.out)))); have n1_ := zA (blk_below (g := gb225) (o := .cells #[.slice A0_0 l0_0.length c0_0, .int .i64 a0_1, .int .i64 a0_2, .int .i64 a0_3, .int .i64 a0_4] 38 (0, 0)) (by (with_reducible repeat (first | refine zG ?_ _ | refine zH ?_ | refine zD ?_ _)); exact BK225.out) hb); have n2_ := zA (blk_below (g := gb226) (o := .cells #[.slice none 0 0, .int .i64 0, .int .i64 0, .int .i64 0, .int .i64 0] 38 (0, 0)) (by (with_reducible repeat (first | refine zG ?_ _ | refine zH ?_ | refine zD ?_ _)); exact BK226.out) hb); have n3_ := zA (below_step (by repeat (first | (with_reducible first | exact HB.out | apply zC | apply zB | apply zF | refine zE ?_ GE225.out | refine zE ?_ GE226.out) | exact HB.out)) hb); clear BK225; clear BK226; clear HB; have HO229 := n0_; have BK225 := n1_; have BK226 := n2_; have HB := n3_; clear n0_ n1_ n2_ n3_; clear hb ho6; have hnb7 := NB225_226.out; have hnc7 := NB226_225.out; have hcz8_0 : w5.cell? ⟨gb225, 0, none⟩ = some (.slice A0_0 l0_0.length c0_0) := (zK BK225.out 0).trans rfl; have hcz8_1 : w5.cell? ⟨gb225, 1, none⟩ = some (.int .i64 a0_1) := (zK BK225.out 1).trans rfl; have hcz8_2 : w5.cell? ⟨gb225, 2, none⟩ = some (.int .i64 a0_2) := (zK BK225.out 2).trans rfl; have hcz8_3 : w5.cell? ⟨gb225, 3, none⟩ = some (.int .i64 a0_3) := (zK BK225.out 3).trans rfl; have hcz8_4 : w5.cell? ⟨gb225, 4, none⟩ = some (.int .i64 a0_4) := (zK BK225.out 4).trans rfl; have hfz8_0 := zJ BK225.out 0; have hfz8_1 := zJ BK225.out 1; have hfz8_2 := zJ BK225.out 2; have hfz8_3 := zJ BK225.out 3; have hfz8_4 := zJ BK225.out 4) | ((with_reducible refine gate_builtin (b := .append) (xs := #[.tmp 3, .tmp 5]) rfl ?_); at_builtin; refine Kd.R_append_rows (Kd.int .i64) (w0 := w) w.heap.size rfl (.tmp 3) (.tmp 5) 36 3 (.int .i64 0) 8 rfl Try.underlying36 info3 rfl (by decide) (by omega) v228 y227 l0_0 _ _ _ (fun _ => True) (fun _ => False) rfl rfl ?aO ?aR (fun _ _ h => h) (fun _ h => h.elim) ?aF ?aB ?aS ?aL ?_; (case aR => repeat (first | exact (Kd.C_below HR0_0.out HB.out) | (with_reducible refine yN ?_ _) | (with_reducible refine yL ?_ _) | (with_reducible refine yM ?_))); (case aB => exact (by repeat (first | (with_reducible first | exact HB.out | apply zC | apply zB | apply zF | refine zE ?_ GE225.out | refine zE ?_ GE226.out) | exact HB.out))); (case aF => exact (fun _ _ => trivial)); (case aO => exact (by (with_reducible repeat (first | apply zN | apply zM | apply zO)); exact HO229.out)); (case aS => exact (zL (by repeat (first | (with_reducible first | exact HB.out | apply zC | apply zB | apply zF | refine zE ?_ GE225.out | refine zE ?_ GE226.out) | exact HB.out)))); (case aL => have := LMc2.out; omega); intro v231 w9 ho hb hg hat; rw [← Ny230.out] at ho; have n0_ := zA (blk_grown (g := gb225) (o := .cells #[.slice A0_0 l0_0.length c0_0, .int .i64 a0_1, .int .i64 a0_2, .int .i64 a0_3, .int .i64 a0_4] 38 (0, 0)) (by (with_reducible repeat (first | refine zG ?_ _ | refine zH ?_ | refine zD ?_ _)); exact BK225.out) hg (Kd.R_ne HO229.out BK225.out (by decide))); have n1_ := zA (blk_grown (g := gb226) (o := .cells #[.slice none 0 0, .int .i64 0, .int .i64 0, .int .i64 0, .int .i64 0] 38 (0, 0)) (by (with_reducible repeat (first | refine zG ?_ _ | refine zH ?_ | refine zD ?_ _)); exact BK226.out) hg (Kd.R_ne HO229.out BK226.out (by decide))); have n2_ := zA (hb); have n3_ := zA (ho); clear BK225; clear BK226; clear HB; clear HO229; have BK225 := n0_; have BK226 := n1_; have HB := n2_; have HO232 := n3_; clear n0_ n1_ n2_ n3_; clear ho hb hg hat; obtain ⟨Ao10, co10, eo10⟩ := Kd.R_slice HO232.out; subst eo10; have hcz11_0 : w9.cell? ⟨gb225, 0, none⟩ = some (.slice A0_0 l0_0.length c0_0) := (zK BK225.out 0).trans rfl; have hcz11_1 : w9.cell? ⟨gb225, 1, none⟩ = some (.int .i64 a0_1) := (zK BK225.out 1).trans rfl; have hcz11_2 : w9.cell? ⟨gb225, 2, none⟩ = some (.int .i64 a0_2) := (zK BK225.out 2).trans rfl; have hcz11_3 : w9.cell? ⟨gb225, 3, none⟩ = some (.int .i64 a0_3) := (zK BK225.out 3).trans rfl; have hcz11_4 : w9.cell? ⟨gb225, 4, none⟩ = some (.int .i64 a0_4) := (zK BK225.out 4).trans rfl; have hfz11_0 := zJ BK225.out 0; have hfz11_1 := zJ BK225.out 1; have hfz11_2 := zJ BK225.out 2; have hfz11_3 := zJ BK225.out 3; have hfz11_4 := zJ BK225.out 4; have hcz12_0 : w9.cell? ⟨gb226, 0, none⟩ = some (.slice none 0 0) := (zK BK226.out 0).trans rfl; have hcz12_1 : w9.cell? ⟨gb226, 1, none⟩ = some (.int .i64 0) := (zK BK226.out 1).trans rfl; have hcz12_2 : w9.cell? ⟨gb226, 2, none⟩ = some (.int .i64 0) := (zK BK226.out 2).trans rfl; have hcz12_3 : w9.cell? ⟨gb226, 3, none⟩ = some (.int .i64 0) := (zK BK226.out 3).trans rfl; have hcz12_4 : w9.cell? ⟨gb226, 4, none⟩ = some (.int .i64 0) := (zK BK226.out 4).trans rfl; have hfz12_0 := zJ BK226.out 0; have hfz12_1 := zJ BK226.out 1; have hfz12_2 := zJ BK226.out 2; have hfz12_3 := zJ BK226.out 3; have hfz12_4 := zJ BK226.out 4))
  refine bodyPost_ret (results_cell_row rfl _ _ gb226 38 #[.slice Ao10 y230.length co10, .int .i64 a0_1, .int .i64 a0_2, .int .i64 a0_3, .int .i64 a0_4] (0, 0) _ rfl (by (with_reducible repeat (first | refine zG ?_ _ | refine zH ?_ | refine zD ?_ _)); refine blk_put (cs := #[.slice Ao10 y230.length co10, .int .i64 a0_1, .int .i64 a0_2, .int .i64 a0_3, .int .i64 0]) ?_ 4 _ rfl; (with_reducible repeat (first | refine zG ?_ _ | refine zH ?_ | refine zD ?_ _)); refine blk_put (cs := #[.slice Ao10 y230.length co10, .int .i64 a0_1, .int .i64 a0_2, .int .i64 0, .int .i64 0]) ?_ 3 _ rfl; (with_reducible repeat (first | refine zG ?_ _ | refine zH ?_ | refine zD ?_ _)); refine blk_put (cs := #[.slice Ao10 y230.length co10, .int .i64 a0_1, .int .i64 0, .int .i64 0, .int .i64 0]) ?_ 2 _ rfl; (with_reducible repeat (first | refine zG ?_ _ | refine zH ?_ | refine zD ?_ _)); refine blk_put (cs := #[.slice Ao10 y230.length co10, .int .i64 0, .int .i64 0, .int .i64 0, .int .i64 0]) ?_ 1 _ rfl; (with_reducible repeat (first | refine zG ?_ _ | refine zH ?_ | refine zD ?_ _)); refine blk_put (cs := #[.slice none 0 0, .int .i64 0, .int .i64 0, .int .i64 0, .int .i64 0]) ?_ 0 _ rfl; (with_reducible repeat (first | refine zG ?_ _ | refine zH ?_ | refine zD ?_ _)); refine blk_far ?_ NB226_225.out _; (with_reducible repeat (first | refine zG ?_ _ | refine zH ?_ | refine zD ?_ _)); exact BK226.out) Try.underlying38 rfl (by kernel_rfl)) rfl ?_
  exact ⟨_, by first | rfl | (simp [errW_none, errW_some] <;> rfl) | (simp [*, errW_none, errW_some] <;> rfl), by (with_reducible repeat (first | apply zN | apply zM | apply zO)); exact zP (Kd.R_far (p := ⟨gb226, 4, none⟩) (Kd.R_far (p := ⟨gb226, 3, none⟩) (Kd.R_far (p := ⟨gb226, 2, none⟩) (Kd.R_far (p := ⟨gb226, 1, none⟩) (Kd.R_far (p := ⟨gb226, 0, none⟩) (Kd.R_far (p := ⟨gb225, 0, none⟩) (zY (zY HO232.out BK225.out (by decide)) BK226.out (by decide)) (fun _ hk => hk.1.2) (.slice Ao10 y230.length co10)) (fun _ hk => hk.2) (.slice Ao10 y230.length co10)) (fun _ hk => hk.2) (.int .i64 a0_1)) (fun _ hk => hk.2) (.int .i64 a0_2)) (fun _ hk => hk.2) (.int .i64 a0_3)) (fun _ hk => hk.2) (.int .i64 a0_4)) (fun _ hk => trivial), by repeat (first | (with_reducible first | exact HB.out | apply zC | apply zB | apply zF | refine zE ?_ GE225.out | refine zE ?_ GE226.out) | exact HB.out)⟩
 ·rw [if_neg c2] at H
  exact absurd H (by simp)
end Go.Proofs.Ytilimpjcdeeaiaa.G


namespace Go.Proofs.Ytilimpjcdeeaiaa.G
open Go.RowKit Go.Proofs.YtilimpjcdeeaiaaW.PrintWords Go.Proofs.YtilimpjcdeeaiaaW.PrintLast Go.Proofs.YtilimpjcdeeaiaaW.PrintMore
attribute [local go_sem] max2_int min2_int max_two min_two max_three min_three max_four min_four   -- for this text's walks alone
def CurW (w0 w : World) (g : Nat) (c : List Int) (m : Nat) : Prop := ∃ a s, IsS137 w0 w g c a s ∧ CurAt c m a s
theorem CurW.up {w0 w : World} {g : Nat} {c : List Int} {m m' : Nat} (h : CurW w0 w g c m) (hm : m ≤ m') : CurW w0 w g c m' := by
 obtain ⟨a, s, h1, h2⟩ := h
 exact ⟨a, s, h1, h2.up hm⟩
theorem CurW.lt {w0 w : World} {g : Nat} {c : List Int} {m : Nat} (h : CurW w0 w g c m) : g < w.heap.size := by
 obtain ⟨a, s, h1, h2⟩ := h
 exact h1.lt
theorem CurW.ge {w0 w : World} {g : Nat} {c : List Int} {m : Nat} (h : CurW w0 w g c m) : w0.heap.size ≤ g := by
 obtain ⟨a, s, h1, h2⟩ := h
 exact h1.ge
/-- the blocks of a walk that draws: what was there at the start is as it was, but for the cursor's own block, and the cursor reads -/
structure DrS (w0 ws w : World) (g : Nat) (c : List Int) (m : Nat) : Prop where
 cur : CurW w0 w g c m
 below : Below w0.heap.size w0 w
 keep : KeepBut ws w g none
/-- what a walk has made is as it was -/
def KeptFrom (b g : Nat) (w w' : World) : Prop := w.heap.size ≤ w'.heap.size ∧ ∀ k, b ≤ k → k ≠ g → k < w.heap.size → w'.heap[k]? = w.heap[k]?
theorem KeptFrom.of_keep {b g : Nat} {w w' : World} (h : KeepBut w w' g none) : KeptFrom b g w w' := ⟨h.1, fun k _ hg hk => h.2 k hk hg (by simp)⟩
theorem KeptFrom.alloc (b g : Nat) (w : World) (o : Obj) : KeptFrom b g w (w.alloc o) := .of_keep (KeepBut.of_below (zC (Below.refl _ _) o) g none)
theorem KeptFrom.refl (b g : Nat) (w : World) : KeptFrom b g w w := ⟨Nat.le_refl _, fun _ _ _ _ => rfl⟩
theorem DrS.alloc {w0 ws w : World} {g : Nat} {c : List Int} {m : Nat} (h : DrS w0 ws w g c m) (o : Obj) : DrS w0 ws (w.alloc o) g c m := by
 obtain ⟨⟨a, s, h1, h2⟩, h3, h4⟩ := h
 exact ⟨⟨a, s, h1.alloc o, h2⟩, zC h3 o, h4.trans (KeepBut.of_below (zC (Below.refl _ _) o) g none) (.inl rfl)⟩
theorem DrS.drewN {w0 ws w : World} {g : Nat} {c : List Int} {m : Nat} (h : DrS w0 ws w g c m) (n : Nat) : DrS w0 ws (w.drewN n) g c m := by
 obtain ⟨⟨a, s, h1, h2⟩, h3, h4⟩ := h
 exact ⟨⟨a, s, h1.drewN n, h2⟩, zB h3 n, h4⟩
theorem DrS.drew {w0 ws w : World} {g : Nat} {c : List Int} {m : Nat} (h : DrS w0 ws w g c m) : DrS w0 ws w.drew g c m := by
 obtain ⟨⟨a, s, h1, h2⟩, h3, h4⟩ := h
 exact ⟨⟨a, s, h1.drew, h2⟩, below_drew h3, h4⟩
theorem DrS.up {w0 ws w : World} {g : Nat} {c : List Int} {m m' : Nat} (h : DrS w0 ws w g c m) (hm : m ≤ m') : DrS w0 ws w g c m' := ⟨h.cur.up hm, h.below, h.keep⟩
theorem DrS.ge {w0 ws w : World} {g : Nat} {c : List Int} {m : Nat} (h : DrS w0 ws w g c m) (hs : g < ws.heap.size) : w0.heap.size ≤ ws.heap.size ∧ ws.heap.size ≤ w.heap.size :=
 ⟨by have := h.cur.ge; omega, h.keep.1⟩
/-- a store to a block that the walk has made -/
theorem DrS.set {w0 ws w : World} {g : Nat} {c : List Int} {m : Nat} (h : DrS w0 ws w g c m) (hs : g < ws.heap.size) {b : Nat} (hp : ws.heap.size ≤ b) (j : Nat) (u : Value) : DrS w0 ws (w.setCell ⟨b, j, none⟩ u) g c m := by
 obtain ⟨⟨a, s, h1, h2⟩, h3, h4⟩ := h
 have := h1.ge
 refine ⟨⟨a, s, h1.far (show g ≠ b by omega) u, h2⟩, zE h3 (by omega), ⟨by rw [World.size_setCell]; exact h4.1, fun i hi hg hr => ?_⟩⟩
 rw [Below.heap_setCell w _ u i (show i ≠ b by omega)]
 exact h4.2 i hi hg hr
/-- an append to a row that the walk has made -/
theorem DrS.grown {w0 ws w w1 : World} {g : Nat} {c : List Int} {m : Nat} (h : DrS w0 ws w g c m) (hs : g < ws.heap.size) {row : Option Nat} (hg : w.grownBy w1 row) (hr : ∀ k, row = some k → ws.heap.size ≤ k) : DrS w0 ws w1 g c m := by
 obtain ⟨⟨a, s, h1, h2⟩, h3, h4⟩ := h
 have h5 := h1.ge
 refine ⟨⟨a, s, h1.grown hg (fun e => by have := hr g e.symm; omega), h2⟩, pw_below_grown h3 row h3.size hg (fun k hk => by have := hr k hk; omega), ⟨Nat.le_trans h4.1 hg.size, fun i hi hgi hri => ?_⟩⟩
 rw [hg.block i (Nat.lt_of_lt_of_le hi h4.1) (fun e => by have := hr i e.symm; omega)]
 exact h4.2 i hi hgi hri
theorem DrS.then_ {w0 ws w w' : World} {g : Nat} {c : List Int} {m m' : Nat} (h : DrS w0 ws w g c m) (k : DrS w0 w w' g c m') : DrS w0 ws w' g c m' := ⟨k.cur, k.below, h.keep.trans k.keep (.inl rfl)⟩
theorem DrS.below_ {w0 ws w w' : World} {g : Nat} {c : List Int} {m : Nat} (h : DrS w0 ws w g c m) (k : Below w.heap.size w w') : DrS w0 ws w' g c m := by
 obtain ⟨⟨a, s, h1, h2⟩, h3, h4⟩ := h
 exact ⟨⟨a, s, h1.below k, h2⟩, h3.trans (k.mono h3.size), h4.trans (KeepBut.of_below k g none) (.inl rfl)⟩
def PickedW (w0 w : World) (g : Nat) (c : List Int) (m : Nat) (n : Int) (e : Ending) (w' : World) : Prop :=
 ∃ x : Int, e = .returned (.int .i64 x) ∧ (0 ≤ x ∧ (x < n ∨ n < 2 ∧ x = 0)) ∧ DrS w0 w w' g c (m + 2)
theorem CurW.pick {w0 w : World} {g : Nat} {c : List Int} {m : Nat} (h : CurW w0 w g c m) (hB : Below w0.heap.size w0 w) (hm : m ≤ 1000000000000) (n : Int) :
  Calls Try.prog 51 #[.pointer (some ⟨g, 0, none⟩), .int .i64 n] w (PickedW w0 w g c m n) := by
 obtain ⟨a, s, h1, h2⟩ := h
 have ha := h2.a1
 obtain ⟨x, a', s', e, h3, h4, h5, h6, h7, h8⟩ := spec_l01Cur_pick.val c h2.b h2.l a s n h2.a0 (by omega) h2.s0 h2.s1
 refine (spec_l01Cur_pick.calls g c a s n x a' s' w0 w h1 hB e).mono ?_
 rintro e w' ⟨rfl, k1, k2, k3⟩
 exact ⟨x, rfl, ⟨h3, h4⟩, ⟨a', s', k1, h2.b, h2.l, by have := h2.a0; omega, by omega, h7, h8⟩, k2, k3⟩
def OnceW (w0 w : World) (g : Nat) (c : List Int) (m : Nat) (e : Ending) (w' : World) : Prop := ∃ x : Bool, e = .returned (.bool x) ∧ DrS w0 w w' g c (m + 2)
theorem CurW.once {w0 w : World} {g : Nat} {c : List Int} {m : Nat} (h : CurW w0 w g c m) (hB : Below w0.heap.size w0 w) (hm : m ≤ 1000000000000) (n : Int) :
  Calls Try.prog 49 #[.pointer (some ⟨g, 0, none⟩), .int .i64 n] w (OnceW w0 w g c m) := by
 obtain ⟨a, s, h1, h2⟩ := h
 have ha := h2.a1
 obtain ⟨x, a', s', e, h5, h6, h7, h8⟩ := spec_l01Cur_once.val c h2.b h2.l a s n h2.a0 (by omega) h2.s0 h2.s1
 refine (spec_l01Cur_once.calls g c a s n x a' s' w0 w h1 hB e).mono ?_
 rintro e w' ⟨rfl, k1, k2, k3⟩
 exact ⟨x, rfl, ⟨a', s', k1, h2.b, h2.l, by have := h2.a0; omega, by omega, h7, h8⟩, k2, k3⟩
def OddW (w0 w : World) (g : Nat) (c : List Int) (m : Nat) (e : Ending) (w' : World) : Prop := ∃ x : Int, e = .returned (.int .i64 x) ∧ DrS w0 w w' g c (m + 2)
theorem CurW.odd {w0 w : World} {g : Nat} {c : List Int} {m : Nat} (h : CurW w0 w g c m) (hB : Below w0.heap.size w0 w) (hm : m ≤ 1000000000000) :
  Calls Try.prog 105 #[.pointer (some ⟨g, 0, none⟩)] w (OddW w0 w g c m) := by
 obtain ⟨a, s, h1, h2⟩ := h
 have ha := h2.a1
 obtain ⟨x, a', s', e, _, _, h5, h6, h7, h8⟩ := spec_l01Cur_odd.val c h2.b h2.l a s h2.a0 (by omega) h2.s0 h2.s1
 refine (spec_l01Cur_odd.calls g c a s x a' s' w0 w h1 hB e).mono ?_
 rintro e w' ⟨rfl, k1, k2, k3⟩
 exact ⟨x, rfl, ⟨a', s', k1, h2.b, h2.l, by have := h2.a0; omega, by omega, h7, h8⟩, k2, k3⟩
/-- a world told by what holds in it -/
theorem gen_world {P K : World → Prop} {W : World} (h : P W) (k : ∀ W, P W → K W) : K W := k W h
end Go.Proofs.Ytilimpjcdeeaiaa.G


namespace Go.Proofs.Ytilimpjcdeeaiaa.G
open Go.RowKit Go.Proofs.YtilimpjcdeeaiaaW.PrintWords Go.Proofs.YtilimpjcdeeaiaaW.PrintLast Go.Proofs.YtilimpjcdeeaiaaW.PrintMore
attribute [local go_sem] max2_int min2_int max_two min_two max_three min_three max_four min_four   -- for this text's walks alone
def NumV (v : Value) : Prop := ∃ x : Int, v = .int .i64 x
def NumB (n : Int) (v : Value) : Prop := ∃ x : Int, v = .int .i64 x ∧ 0 ≤ x ∧ x < n
/-- what was made from block b on is as it was -/
def KeptOn (b : Nat) (w w' : World) : Prop := w.heap.size ≤ w'.heap.size ∧ ∀ k, b ≤ k → k < w.heap.size → w'.heap[k]? = w.heap[k]?
theorem KeptOn.refl (b : Nat) (w : World) : KeptOn b w w := ⟨Nat.le_refl _, fun _ _ _ => rfl⟩
theorem KeptOn.of_keep {b g : Nat} {w w' : World} (h : KeepBut w w' g none) (hg : g < b) : KeptOn b w w' := ⟨h.1, fun k hb hk => h.2 k hk (by omega) (by simp)⟩
theorem KeptOn.of_below {b : Nat} {w w' : World} (h : Below w.heap.size w w') : KeptOn b w w' := ⟨h.size, fun k _ hk => h.block k hk⟩
theorem KeptOn.alloc (b : Nat) (w : World) (o : Obj) : KeptOn b w (w.alloc o) := .of_below (zC (Below.refl _ _) o)
theorem KeptOn.cell {b : Nat} {w w' : World} (h : KeptOn b w w') {k j : Nat} (hb : b ≤ k) {v : Value} (hc : w.cell? ⟨k, j, none⟩ = some v) : w'.cell? ⟨k, j, none⟩ = some v := by
 have hk : k < w.heap.size := World.block_lt_of_cell? w ⟨k, j, none⟩ hc
 have h1 := h.2 k hb hk
 unfold World.cell? at hc ⊢
 rw [h1]; exact hc
/-- a row of numbers that was made behind block b -/
def RowV (b : Nat) (n : Nat) (v : Value) (w : World) : Prop := ∃ (k : Nat) (xs : List Int), v = .slice (some ⟨k, 0, none⟩) n n ∧ b ≤ k ∧ xs.length = n ∧ w.heap[k]? = some (.cells (nums .i64 xs).toArray 3 (0, 0))
def CellV (b : Nat) (v : Value) (w : World) : Prop := ∃ (k j : Nat) (x : Int), v = .pointer (some ⟨k, j, none⟩) ∧ b ≤ k ∧ w.cell? ⟨k, j, none⟩ = some (.int .i64 x)
theorem RowV.keep {b n : Nat} {v : Value} {w w' : World} (h : RowV b n v w) (hk : KeptOn b w w') : RowV b n v w' := by
 obtain ⟨k, xs, h1, h2, h3, h4⟩ := h
 exact ⟨k, xs, h1, h2, h3, (hk.2 k h2 (blk_lt h4)).trans h4⟩
theorem CellV.keep {b : Nat} {v : Value} {w w' : World} (h : CellV b v w) (hk : KeptOn b w w') : CellV b v w' := by
 obtain ⟨k, j, x, h1, h2, h3⟩ := h
 exact ⟨k, j, x, h1, h2, hk.cell h2 h3⟩
theorem RowV.at_ {b n : Nat} {v : Value} {w : World} (h : RowV b n v w) (i : Int) (h0 : 0 ≤ i) (h1 : i < n) : ∃ k, v = .slice (some ⟨k, 0, none⟩) n n ∧ CellV b (.pointer (some ⟨k, i.toNat, none⟩)) w := by
 obtain ⟨k, xs, rfl, h3, h4, h5⟩ := h
 refine ⟨k, rfl, k, i.toNat, rd xs i, rfl, h3, ?_⟩
 rw [zK h5]
 have hlt : i.toNat < xs.length := by omega
 unfold nums rd
 simp [List.getElem?_map, List.getElem?_eq_getElem hlt]
theorem RowV.new (b : Nat) (w : World) (xs : List Int) (n : Nat) (hn : xs.length = n) (hb : b ≤ w.heap.size) : RowV b n (.slice (some ⟨w.heap.size, 0, none⟩) n n) (w.alloc (.cells (nums .i64 xs).toArray 3 (0, 0))) :=
 ⟨w.heap.size, xs, rfl, hb, hn, blk_new _ _⟩
def cntL (L : Nat → Bool) : List Nat → Nat
 | [] => 0
 | i :: r => (if L i then 1 else 0) + cntL L r
theorem KeptOn.new {b : Nat} {W W' : World} {o : Obj} (hk : KeptOn b (W.alloc o) W') (hb : b ≤ W.heap.size) : W'.heap[W.heap.size]? = some o := (hk.2 _ hb (by rw [yJ]; omega)).trans (blk_new _ _)
theorem lit3_cell {W : World} {k : Nat} {a0 a1 a2 : Int} {t : TypeId} (h : W.heap[k]? = some (.cells #[.int .i64 a0, .int .i64 a1, .int .i64 a2] t (0, 0))) (x : Int) (h0 : 0 ≤ x) (h1 : x < 3) : ∃ y : Int, W.cell? ⟨k, x.toNat, none⟩ = some (.int .i64 y) := by
 obtain rfl | rfl | rfl : x = 0 ∨ x = 1 ∨ x = 2 := by omega
 ·exact ⟨a0, by rw [zK h]; rfl⟩
 ·exact ⟨a1, by rw [zK h]; rfl⟩
 ·exact ⟨a2, by rw [zK h]; rfl⟩
theorem lit4_cell {W : World} {k : Nat} {a0 a1 a2 a3 : Int} {t : TypeId} (h : W.heap[k]? = some (.cells #[.int .i64 a0, .int .i64 a1, .int .i64 a2, .int .i64 a3] t (0, 0))) (x : Int) (h0 : 0 ≤ x) (h1 : x < 4) : ∃ y : Int, W.cell? ⟨k, x.toNat, none⟩ = some (.int .i64 y) := by
 obtain rfl | rfl | rfl | rfl : x = 0 ∨ x = 1 ∨ x = 2 ∨ x = 3 := by omega
 ·exact ⟨a0, by rw [zK h]; rfl⟩
 ·exact ⟨a1, by rw [zK h]; rfl⟩
 ·exact ⟨a2, by rw [zK h]; rfl⟩
 ·exact ⟨a3, by rw [zK h]; rfl⟩
theorem cntL_le (L : Nat → Bool) : ∀ l : List Nat, cntL L l ≤ l.length
 | [] => Nat.le_refl _
 | i :: r => by have := cntL_le L r; unfold cntL; simp; split <;> omega
end Go.Proofs.Ytilimpjcdeeaiaa.G


namespace Go.Proofs.Ytilimpjcdeeaiaa.G
open Go.RowKit Go.Proofs.YtilimpjcdeeaiaaW.PrintWords Go.Proofs.YtilimpjcdeeaiaaW.PrintLast Go.Proofs.YtilimpjcdeeaiaaW.PrintMore
attribute [local go_sem] max2_int min2_int max_two min_two max_three min_three max_four min_four   -- for this text's walks alone
def gone1 (L : Nat → Bool) (i j : Nat) : Bool := if j = i then true else L j
theorem gone1_self (L : Nat → Bool) (i : Nat) : gone1 L i i = true := if_pos rfl
theorem gone1_mono {L : Nat → Bool} (i : Nat) {j : Nat} (h : L j = true) : gone1 L i j = true := by unfold gone1; split <;> first | rfl | exact h
def opDeps (o : Oper) : List Nat := (o.after.toList.filter fun e => Region.binds .any e).map fun e => e.on
def StepAt (P : Program) (ops : Array Oper) (I : (Nat → Bool) → Act → World → Prop) (i : Nat) : Prop :=
 ∃ o, ops[i]? = some o ∧ ∀ (Q : Exit → Act → World → Prop) (K : Act → World → Prop) (L : Nat → Bool) (a : Act) (w : World), L i = false → (∀ d ∈ opDeps o, L d = true) → I L a w →
  (∀ a' w', I (gone1 L i) a' w' → K a' w') → if Region.wanted o (yielded ops a.tmps) then o.wp P a w K Q else K (a.put o.dst undef) w
def StepsTo (P : Program) (ops : Array Oper) (I : (Nat → Bool) → Act → World → Prop) : Nat → Prop
 | 0 => True
 | n + 1 => StepAt P ops I n ∧ StepsTo P ops I n
theorem StepsTo.at_ {P : Program} {ops : Array Oper} {I : (Nat → Bool) → Act → World → Prop} : ∀ {n : Nat}, StepsTo P ops I n → ∀ i, i < n → StepAt P ops I i
 | 0, _, i, hi => absurd hi (Nat.not_lt_zero _)
 | n + 1, h, i, hi => by
  by_cases e : i = n
  ·subst e; exact h.1
  ·exact StepsTo.at_ h.2 i (by omega)
/-- each operation waits for earlier ones alone -/
def onward (ops : Array Oper) : Bool := (List.range ops.size).all fun i => match ops[i]? with
 | some o => (opDeps o).all fun d => decide (d < i)
 | none => true
theorem gone1_listed {n : Nat} (listed : Array Bool) (hs : listed.size = n) (i j : Nat) (hi : i < n) : gone1 (fun j => listed.getD j true) i j = (listed.setIfInBounds i true).getD j true := by
 unfold gone1
 by_cases e : j = i
 ·subst e
  rw [if_pos rfl]
  simp [hs, hi]
 ·rw [if_neg e, getD_set_ne true (fun h => e h.symm)]
theorem ready_nil_all {ops : Array Oper} (hw : onward ops = true) {listed : Array Bool} (hs : listed.size = ops.size) (h : Region.ready .any ops listed = []) : ∀ j : Nat, listed.getD j true = true := by
 intro j
 induction j using Nat.strongRecOn with
 | _ j ih =>
  cases hj : listed.getD j true with
  | true => rfl
  | false =>
   exfalso
   have hlt : j < ops.size := by
    rcases Nat.lt_or_ge j ops.size with h' | h'
    ·exact h'
    ·rw [show listed.getD j true = true by simp [Array.getElem?_eq_none (show listed.size ≤ j by omega)]] at hj; cases hj
   have hmem : j ∈ Region.ready .any ops listed := by
    refine mem_ready.2 ⟨hj, ops[j], Array.getElem?_eq_getElem hlt, fun e he hb => ?_⟩
    unfold onward at hw
    have h1 := List.all_eq_true.1 hw j (List.mem_range.2 hlt)
    rw [Array.getElem?_eq_getElem hlt] at h1
    have h2 := List.all_eq_true.1 h1 e.on (List.mem_map.2 ⟨e, List.mem_filter.2 ⟨by simpa using he, hb⟩, rfl⟩)
    have h3 : e.on < j := by simpa using h2
    have h4 := ih e.on h3
    have h5 : e.on < listed.size := by omega
    rw [show listed.getD e.on false = listed.getD e.on true by simp [h5]]
    exact h4
   rw [h] at hmem
   cases hmem
theorem wpAny_inv {P : Program} {ops : Array Oper} {Q : Exit → Act → World → Prop} (I : (Nat → Bool) → Act → World → Prop) (hw : onward ops = true) (hst : StepsTo P ops I ops.size)
  (hd : ∀ L a w, (∀ j, L j = true) → I L a w → Q .normal a w) :
  ∀ (fuel : Nat) (listed : Array Bool) (a : Act) (w : World), listed.size = ops.size → (listed.toList.filter (fun b => !b)).length ≤ fuel → I (fun j => listed.getD j true) a w → wpAny P .any ops Q fuel listed a w := by
 intro fuel
 induction fuel with
 | zero =>
  intro listed a w hs hf hI
  have hall : ∀ j : Nat, listed.getD j true = true := by
   intro j
   rcases Nat.lt_or_ge j listed.size with h' | h'
   ·have h0 : listed.toList.filter (fun b => !b) = [] := List.eq_nil_of_length_eq_zero (by omega)
    have h1 := List.filter_eq_nil_iff.1 h0 listed[j] (by simp)
    simp [h'] at h1 ⊢
    exact h1
   ·simp [Array.getElem?_eq_none h']
  refine ⟨?_, hd _ a w hall hI⟩
  cases hr : Region.ready .any ops listed with
  | nil => rfl
  | cons x xs =>
   have hx : x ∈ Region.ready .any ops listed := by rw [hr]; exact List.mem_cons_self
   have := (mem_ready.1 hx).1
   rw [hall x] at this
   cases this
 | succ fuel ih =>
  intro listed a w hs hf hI
  refine ⟨fun hr => hd _ a w (ready_nil_all hw hs hr) hI, fun i hi => ?_⟩
  obtain ⟨hun, o, ho, hall⟩ := mem_ready.1 hi
  have hlt : i < ops.size := (Array.getElem?_eq_some_iff.1 ho).1
  obtain ⟨o', ho', hstep⟩ := hst.at_ i hlt
  have e : o' = o := Option.some.inj (ho'.symm.trans ho)
  subst e
  have h1 := hstep Q (wpAny P .any ops Q fuel (listed.setIfInBounds i true)) (fun j => listed.getD j true) a w hun (fun d hd' => by
   obtain ⟨e, he, rfl⟩ := List.mem_map.1 hd'
   obtain ⟨he1, he2⟩ := List.mem_filter.1 he
   have h2 := hall e (by simpa using he1) he2
   have h3 : e.on < listed.size := by
    rcases Nat.lt_or_ge e.on listed.size with h' | h'
    ·exact h'
    ·rw [show listed.getD e.on false = false by simp [Array.getElem?_eq_none h']] at h2; cases h2
   show listed.getD e.on true = true
   rw [show listed.getD e.on true = listed.getD e.on false by simp [h3]]
   exact h2) hI (fun a' w' hI' => by
   refine ih _ a' w' (by simp [hs]) ?_ (by rw [← funext fun j => gone1_listed listed hs i j hlt]; exact hI')
   have hli : i < listed.toList.length := by rw [Array.length_toList]; omega
   have hu2 : listed.toList[i] = false := by
    have : listed.getD i true = false := hun
    simp [show i < listed.size by omega] at this
    rw [Array.getElem_toList]; exact this
   rw [Array.toList_setIfInBounds]
   have h5 : listed.toList = listed.toList.take i ++ listed.toList[i] :: listed.toList.drop (i + 1) := by
    rw [List.getElem_cons_drop, List.take_append_drop]
   rw [List.set_eq_take_append_cons_drop, if_pos hli, List.filter_append, List.filter_cons]
   rw [h5, List.filter_append, List.filter_cons, hu2] at hf
   simp at hf ⊢
   omega)
  unfold wpOp
  rw [ho]
  simp only []
  split at h1
  ·rename_i hwd
   rw [if_pos hwd]; exact .inl h1
  ·rename_i hwd
   rw [if_neg hwd]; exact h1
theorem wp_region_inv {P : Program} {ops : Array Oper} {Q : Exit → Act → World → Prop} {id : Nat} {a : Act} {w : World} (I : (Nat → Bool) → Act → World → Prop) (hm : P.follows .mixedOrders = true) (hw : onward ops = true)
  (h0 : ∀ L : Nat → Bool, (∀ j, j < ops.size → L j = false) → I L a w.drew) (hst : StepsTo P ops I ops.size) (hd : ∀ L a w, (∀ j, L j = true) → I L a w → Q .normal a w) : (Code.region id ops true).wp P Q a w :=
 wp_region_any hm (wpAny_inv I hw hst hd ops.size _ a w.drew (by simp) (by
  have h1 := List.length_filter_le (fun b => !b) (Array.replicate ops.size false).toList
  have h2 : (Array.replicate ops.size false).toList.length = ops.size := by simp
  omega) (h0 _ (fun j hj => by simp [hj])))
def AgreeOff (S : List Nat) (a0 a : Act) : Prop := a.tmps.size = a0.tmps.size ∧ a.defers = a0.defers ∧ ∀ t, t ∉ S → a.tmps[t]? = a0.tmps[t]?
theorem AgreeOff.refl (S : List Nat) (a : Act) : AgreeOff S a a := ⟨rfl, rfl, fun _ _ => rfl⟩
theorem AgreeOff.put {S : List Nat} {a0 a : Act} (h : AgreeOff S a0 a) {s : Nat} (hs : s ∈ S) (v : Value) : AgreeOff S a0 (a.put (some s) v) := by
 obtain ⟨h1, h2, h3⟩ := h
 refine ⟨by simpa [Act.put] using h1, h2, fun t ht => ?_⟩
 have hne : s ≠ t := fun e => ht (e ▸ hs)
 show (a.tmps.setIfInBounds s v)[t]? = _
 rw [Array.getElem?_setIfInBounds_ne hne]
 exact h3 t ht
theorem AgreeOff.none {S : List Nat} {a0 a : Act} (h : AgreeOff S a0 a) (v : Value) : AgreeOff S a0 (a.put Option.none v) := h
theorem eval_tmp (a : Act) (t : Nat) : a.eval (.tmp t) = (a.tmps[t]?).getD undef := by
 show a.tmps.getD t undef = _
 rw [Array.getD_eq_getD_getElem?]
theorem AgreeOff.eval {S : List Nat} {a0 a : Act} (h : AgreeOff S a0 a) {t : Nat} (ht : t ∉ S) : a.eval (.tmp t) = a0.eval (.tmp t) := by
 rw [eval_tmp, eval_tmp, h.2.2 t ht]
theorem eval_put_ne (a : Act) {s t : Nat} (v : Value) (h : s ≠ t) : (a.put (some s) v).eval (.tmp t) = a.eval (.tmp t) := by
 rw [eval_tmp, eval_tmp]
 show ((a.tmps.setIfInBounds s v)[t]?).getD undef = _
 rw [Array.getElem?_setIfInBounds_ne h]
theorem eval_put_self (a : Act) {s : Nat} (v : Value) (h : s < a.tmps.size) : (a.put (some s) v).eval (.tmp s) = v := by
 rw [eval_tmp]
 show ((a.tmps.setIfInBounds s v)[s]?).getD undef = _
 rw [Array.getElem?_setIfInBounds_self_of_lt h]
 rfl
def setSlots (l : List (Nat × Value)) (t : Array Value) : Array Value := l.foldl (fun t p => t.setIfInBounds p.1 p.2) t
theorem setSlots_get (f : Nat → Value) : ∀ (S : List Nat) (t : Array Value) (i : Nat), (setSlots (S.map fun s => (s, f s)) t)[i]? = if i ∈ S ∧ i < t.size then some (f i) else t[i]?
 | [], t, i => by
  rw [if_neg (fun h => by cases h.1)]
  rfl
 | s :: S, t, i => by
  show (setSlots (S.map fun s => (s, f s)) (t.setIfInBounds s (f s)))[i]? = _
  rw [setSlots_get f S, Array.size_setIfInBounds]
  by_cases h1 : i ∈ S ∧ i < t.size
  ·rw [if_pos h1, if_pos ⟨List.mem_cons_of_mem _ h1.1, h1.2⟩]
  ·rw [if_neg h1]
   by_cases h2 : s = i
   ·subst h2
    by_cases h3 : s < t.size
    ·rw [if_pos ⟨List.mem_cons_self, h3⟩, Array.getElem?_setIfInBounds_self_of_lt h3]
    ·rw [if_neg (fun h => h3 h.2), Array.getElem?_eq_none (by rw [Array.size_setIfInBounds]; omega), Array.getElem?_eq_none (by omega)]
   ·rw [Array.getElem?_setIfInBounds_ne h2]
    by_cases h3 : i ∈ s :: S ∧ i < t.size
    ·exact absurd ⟨(List.mem_cons.1 h3.1).resolve_left (fun e => h2 e.symm), h3.2⟩ h1
    ·rw [if_neg h3]
theorem AgreeOff.eq {S : List Nat} {a0 a : Act} (h : AgreeOff S a0 a) : a = ⟨setSlots (S.map fun s => (s, a.eval (.tmp s))) a0.tmps, a0.defers⟩ := by
 obtain ⟨h1, h2, h3⟩ := h
 have e : a.tmps = setSlots (S.map fun s => (s, a.eval (.tmp s))) a0.tmps := by
  apply Array.ext_getElem?
  intro i
  rw [setSlots_get]
  by_cases hi : i ∈ S ∧ i < a0.tmps.size
  ·rw [if_pos hi, eval_tmp, Array.getElem?_eq_getElem (by omega)]
   rfl
  ·rw [if_neg hi]
   by_cases hS : i ∈ S
   ·rw [Array.getElem?_eq_none (by rw [h1]; exact Nat.le_of_not_lt fun hlt => hi ⟨hS, hlt⟩), Array.getElem?_eq_none (Nat.le_of_not_lt fun hlt => hi ⟨hS, hlt⟩)]
   ·exact h3 i hS
 cases a
 cases a0
 simp only at e h2
 subst h2
 rw [← e]
theorem gen_act {K : Act → Prop} {a : Act} (h : ∀ a0, a0 = a → K a0) : K a := h a rfl
end Go.Proofs.Ytilimpjcdeeaiaa.G


namespace Go.Proofs.Ytilimpjcdeeaiaa.G
open Go.RowKit Go.Proofs.YtilimpjcdeeaiaaW.PrintWords Go.Proofs.YtilimpjcdeeaiaaW.PrintLast Go.Proofs.YtilimpjcdeeaiaaW.PrintMore
attribute [local go_sem] max2_int min2_int max_two min_two max_three min_three max_four min_four   -- for this text's walks alone
structure FactD where
 op : Nat
 dead : Option Nat
 slot : Nat
 P : Value → World → Prop
def HoldsD (fs : List FactD) (L : Nat → Bool) (a : Act) (w : World) : Prop := ∀ f ∈ fs, L f.op = true → (∀ d, f.dead = some d → L d = false) → f.P (a.eval (.tmp f.slot)) w
def StableD (b : Nat) (fs : List FactD) : Prop := ∀ f ∈ fs, ∀ v w w', f.P v w → KeptOn b w w' → f.P v w'
theorem StableD.nil (b : Nat) : StableD b [] := fun f hf => by cases hf
theorem StableD.cons {b : Nat} {f : FactD} {fs : List FactD} (h : ∀ v w w', f.P v w → KeptOn b w w' → f.P v w') (hs : StableD b fs) : StableD b (f :: fs) := fun q hq => by
 rcases List.mem_cons.1 hq with rfl | hq
 ·exact h
 ·exact hs q hq
theorem HoldsD.at_ {fs : List FactD} {L : Nat → Bool} {a : Act} {w : World} (h : HoldsD fs L a w) (k : Nat) {f : FactD} (hf : fs[k]? = some f) (h1 : L f.op = true) (h2 : ∀ d, f.dead = some d → L d = false) : f.P (a.eval (.tmp f.slot)) w :=
 h f (List.mem_of_getElem? hf) h1 h2
theorem HoldsD.step {b : Nat} {fs : List FactD} {L : Nat → Bool} {a : Act} {w w' : World} (h : HoldsD fs L a w) (hst : StableD b fs) (hk : KeptOn b w w') {i s : Nat} {v : Value} (hsz : s < a.tmps.size) (hsl : (fs.all fun f => f.op == i || f.slot != s) = true) (hnew : ∀ f ∈ fs, f.op = i → f.slot = s ∧ f.P v w') : HoldsD fs (gone1 L i) (a.put (some s) v) w' := by
 intro f hf h1 h2
 by_cases hi : f.op = i
 ·obtain ⟨e, hp⟩ := hnew f hf hi
  rw [e, eval_put_self _ _ hsz]
  exact hp
 ·have hne : s ≠ f.slot := by
   have := List.all_eq_true.1 hsl f hf
   simp [hi] at this
   exact fun e => this e.symm
  rw [eval_put_ne _ _ hne]
  refine hst f hf _ _ _ (h f hf ?_ (fun d hd => ?_)) hk
  ·unfold gone1 at h1; rwa [if_neg hi] at h1
  ·have := h2 d hd
   unfold gone1 at this
   split at this
   ·cases this
   ·exact this
theorem cntL_out {L : Nat → Bool} {i : Nat} : ∀ {l : List Nat}, i ∉ l → cntL (gone1 L i) l = cntL L l
 | [], _ => rfl
 | j :: r, h => by
  have hj : j ≠ i := fun e => h (e ▸ List.mem_cons_self)
  unfold cntL
  rw [cntL_out (fun h2 => h (List.mem_cons_of_mem _ h2)), show gone1 L i j = L j from if_neg hj]
theorem cntL_in {L : Nat → Bool} {i : Nat} (hL : L i = false) : ∀ {l : List Nat}, i ∈ l → l.Nodup → cntL (gone1 L i) l = cntL L l + 1
 | j :: r, h, hn => by
  unfold cntL
  by_cases hj : j = i
  ·subst hj
   rw [cntL_out (List.nodup_cons.1 hn).1, gone1_self, hL]
   simp
   omega
  ·rw [cntL_in hL ((List.mem_cons.1 h).resolve_left (fun e => hj e.symm)) (List.nodup_cons.1 hn).2, show gone1 L i j = L j from if_neg hj]
   omega
/-- b: the walk's own blocks begin here; S: the region's slots; fin: its last operation; St: the state, by the bound on the cursor -/
structure RegF (b sz fin m : Nat) (S ps : List Nat) (fs : List FactD) (St : Nat → World → Prop) (a0 : Act) (L : Nat → Bool) (a : Act) (w : World) : Prop where
 s : AgreeOff S a0 a
 z : a.tmps.size = sz
 d : St (m + 2 * cntL L ps) w
 h : L fin = false → HoldsD fs L a w
 c : L fin = true → ∀ j, j < fin → L j = true
section
variable {b sz fin m : Nat} {S ps : List Nat} {fs : List FactD} {St : Nat → World → Prop} {a0 a : Act} {L : Nat → Bool} {w w' : World}
theorem RegF.start {n : Nat} (hz : a.tmps.size = sz) (hf : fin < n) (hL : ∀ j, j < n → L j = false) (hfs : (fs.all fun f => decide (f.op < n)) = true) (hps : (ps.all fun i => decide (i < n)) = true) (hd : St m w) : RegF b sz fin m S ps fs St a L a w :=
 ⟨AgreeOff.refl _ _, hz, by
  have : cntL L ps = 0 := by
   induction ps with
   | nil => rfl
   | cons i r ih =>
    rw [List.all_cons, Bool.and_eq_true] at hps
    unfold cntL
    rw [ih hps.2, hL i (zI hps.1)]
    rfl
  rw [this]
  exact hd, fun _ f hf' h1 => absurd (h1.symm.trans (hL _ (zI (List.all_eq_true.1 hfs f hf')))) (by decide), fun h => absurd (h.symm.trans (hL _ hf)) (by decide)⟩
theorem RegF.open_ (h : RegF b sz fin m S ps fs St a0 L a w) {i : Nat} (hi : i < fin) (hL : L i = false) : L fin = false := by
 cases hf : L fin with
 | false => rfl
 | true =>
  have := h.c hf i hi
  rw [hL] at this
  cases this
theorem RegF.fact (h : RegF b sz fin m S ps fs St a0 L a w) (hL : L fin = false) (k : Nat) {f : FactD} (hf : fs[k]? = some f) (h1 : L f.op = true) (h2 : ∀ d, f.dead = some d → L d = false) : f.P (a.eval (.tmp f.slot)) w := (h.h hL).at_ k hf h1 h2
theorem RegF.slot (h : RegF b sz fin m S ps fs St a0 L a w) {t : Nat} {v : Value} (ht : S.contains t = false) (hv : a0.eval (.tmp t) = v) : a.eval (.tmp t) = v := (h.s.eval (by simpa using ht)).trans hv
/-- operation i is carried out: its slot is s, its value v -/
theorem RegF.put (h : RegF b sz fin m S ps fs St a0 L a w) (hst : StableD b fs) {i s : Nat} {v : Value} (hL : L i = false) (hc : (decide (i < fin) && decide (s < sz) && S.contains s && !ps.contains i && fs.all fun f => f.op == i || f.slot != s) = true) (hk : KeptOn b w w') (hd : St (m + 2 * cntL L ps) w') {f0 : FactD} (hff : (fs.filter fun f => f.op == i) = [f0]) (h0 : f0.slot = s) (hnew : f0.P v w') :
  RegF b sz fin m S ps fs St a0 (gone1 L i) (a.put (some s) v) w' := by
 simp only [Bool.and_eq_true, decide_eq_true_eq, Bool.not_eq_true'] at hc
 obtain ⟨⟨⟨⟨c1, c2⟩, c3⟩, c4⟩, c5⟩ := hc
 have hfin : gone1 L i fin = L fin := if_neg (by omega)
 refine ⟨h.s.put (by simpa using c3) v, by simpa [Act.put] using h.z, ?_, fun hf => ?_, fun hf j hj => gone1_mono i (h.c (hfin ▸ hf) j hj)⟩
 ·rw [cntL_out (by simpa using c4)]; exact hd
 ·refine (h.h (hfin ▸ hf)).step hst hk (by rw [h.z]; exact c2) c5 (fun f hf2 he => ?_)
  have : f ∈ fs.filter fun f => f.op == i := List.mem_filter.2 ⟨hf2, by simp [he]⟩
  rw [hff, List.mem_singleton] at this
  subst this
  exact ⟨h0, hnew⟩
/-- .. and it draws a number -/
theorem RegF.draw (h : RegF b sz fin m S ps fs St a0 L a w) (hst : StableD b fs) {i s : Nat} {v : Value} (hL : L i = false) (hc : (decide (i < fin) && decide (s < sz) && S.contains s && ps.contains i && decide ps.Nodup && fs.all fun f => f.op == i || f.slot != s) = true) (hk : KeptOn b w w') (hd : St (m + 2 * cntL L ps + 2) w') {f0 : FactD} (hff : (fs.filter fun f => f.op == i) = [f0]) (h0 : f0.slot = s) (hnew : f0.P v w') :
  RegF b sz fin m S ps fs St a0 (gone1 L i) (a.put (some s) v) w' := by
 simp only [Bool.and_eq_true, decide_eq_true_eq] at hc
 obtain ⟨⟨⟨⟨⟨c1, c2⟩, c3⟩, c4⟩, c6⟩, c5⟩ := hc
 have hfin : gone1 L i fin = L fin := if_neg (by omega)
 refine ⟨h.s.put (by simpa using c3) v, by simpa [Act.put] using h.z, ?_, fun hf => ?_, fun hf j hj => gone1_mono i (h.c (hfin ▸ hf) j hj)⟩
 ·rw [cntL_in hL (by simpa using c4) c6]; exact hd
 ·refine (h.h (hfin ▸ hf)).step hst hk (by rw [h.z]; exact c2) c5 (fun f hf2 he => ?_)
  have : f ∈ fs.filter fun f => f.op == i := List.mem_filter.2 ⟨hf2, by simp [he]⟩
  rw [hff, List.mem_singleton] at this
  subst this
  exact ⟨h0, hnew⟩
/-- the last operation, a store: every other has been carried out -/
theorem RegF.last (h : RegF b sz fin m S ps fs St a0 L a w) (hL : L fin = false) (hall : ∀ j, j < fin → L j = true) (hc : (!ps.contains fin) = true) (hd : St (m + 2 * cntL L ps) w') (v : Value) : RegF b sz fin m S ps fs St a0 (gone1 L fin) (a.put none v) w' :=
 ⟨h.s.none v, h.z, by rw [cntL_out (by simpa using hc)]; exact hd, fun hf => absurd hf (by rw [gone1_self]; decide), fun _ j hj => gone1_mono fin (hall j hj)⟩
theorem RegF.bound (h : RegF b sz fin m S ps fs St a0 L a w) {M : Nat} (hm : m + 2 * ps.length ≤ M) : m + 2 * cntL L ps ≤ M := by
 have := cntL_le L ps
 omega
theorem cntL_all {L : Nat → Bool} (hL : ∀ j, L j = true) : ∀ l : List Nat, cntL L l = l.length
 | [] => rfl
 | i :: r => by
  unfold cntL
  rw [hL i, cntL_all hL r, List.length_cons]
  simp
  omega
theorem RegF.done (h : RegF b sz fin m S ps fs St a0 L a w) (hL : ∀ j, L j = true) : St (m + 2 * ps.length) w := by
 rw [← cntL_all hL ps]
 exact h.d
end
theorem deadNo {L : Nat → Bool} : ∀ d, (none : Option Nat) = some d → L d = false := fun d h => by cases h
theorem deadAt {L : Nat → Bool} {i : Nat} (hL : L i = false) : ∀ d, some i = some d → L d = false := fun d h => by injection h with h; subst h; exact hL
structure RegG (sz : Nat) (S : List Nat) (fs : List FactD) (St : (Nat → Bool) → World → Prop) (a0 : Act) (L : Nat → Bool) (a : Act) (w : World) : Prop where
 s : AgreeOff S a0 a
 z : a.tmps.size = sz
 d : St L w
 h : HoldsD fs L a w
section
variable {sz : Nat} {S : List Nat} {fs : List FactD} {St : (Nat → Bool) → World → Prop} {a0 a : Act} {L : Nat → Bool} {w w' : World}
theorem RegG.start {n : Nat} (hz : a.tmps.size = sz) (hL : ∀ j, j < n → L j = false) (hfs : (fs.all fun f => decide (f.op < n)) = true) (hd : St L w) : RegG sz S fs St a L a w :=
 ⟨AgreeOff.refl _ _, hz, hd, fun f hf' h1 => absurd (h1.symm.trans (hL _ (zI (List.all_eq_true.1 hfs f hf')))) (by decide)⟩
theorem RegG.fact (h : RegG sz S fs St a0 L a w) (k : Nat) {f : FactD} (hf : fs[k]? = some f) (h1 : L f.op = true) (h2 : ∀ d, f.dead = some d → L d = false) : f.P (a.eval (.tmp f.slot)) w := h.h.at_ k hf h1 h2
theorem RegG.slot (h : RegG sz S fs St a0 L a w) {t : Nat} {v : Value} (ht : S.contains t = false) (hv : a0.eval (.tmp t) = v) : a.eval (.tmp t) = v := (h.s.eval (by simpa using ht)).trans hv
theorem RegG.upd (h : RegG sz S fs St a0 L a w) {i s : Nat} {v : Value} (hc : (decide (s < sz) && S.contains s && fs.all fun f => f.op == i || f.slot != s) = true) (hst : ∀ f ∈ fs, f.op ≠ i → f.dead ≠ some i → ∀ v, f.P v w → f.P v w') (hd : St (gone1 L i) w') (hnew : ∀ f ∈ fs, f.op = i → f.slot = s ∧ f.P v w') :
  RegG sz S fs St a0 (gone1 L i) (a.put (some s) v) w' := by
 simp only [Bool.and_eq_true, decide_eq_true_eq] at hc
 obtain ⟨⟨c2, c3⟩, c5⟩ := hc
 refine ⟨h.s.put (by simpa using c3) v, by simpa [Act.put] using h.z, hd, ?_⟩
 intro f hf h1 h2
 by_cases hi : f.op = i
 ·obtain ⟨e, hp⟩ := hnew f hf hi
  rw [e, eval_put_self _ _ (by rw [h.z]; exact c2)]
  exact hp
 ·have hne : s ≠ f.slot := by
   have := List.all_eq_true.1 c5 f hf
   simp [hi] at this
   exact fun e => this e.symm
  rw [eval_put_ne _ _ hne]
  refine hst f hf hi (fun e => absurd (h2 i e) (by rw [gone1_self]; decide)) _ (h.h f hf ?_ (fun d hd => ?_))
  ·unfold gone1 at h1; rwa [if_neg hi] at h1
  ·have := h2 d hd
   unfold gone1 at this
   split at this
   ·cases this
   ·exact this
theorem RegG.put (h : RegG sz S fs St a0 L a w) {i s : Nat} {v : Value} (hc : (decide (s < sz) && S.contains s && fs.all fun f => f.op == i || f.slot != s) = true) (hst : ∀ f ∈ fs, f.op ≠ i → f.dead ≠ some i → ∀ v, f.P v w → f.P v w') (hd : St (gone1 L i) w') {f0 : FactD} (hff : (fs.filter fun f => f.op == i) = [f0]) (h0 : f0.slot = s) (hnew : f0.P v w') :
  RegG sz S fs St a0 (gone1 L i) (a.put (some s) v) w' := h.upd hc hst hd (fun f hf2 he => by
 have : f ∈ fs.filter fun f => f.op == i := List.mem_filter.2 ⟨hf2, by simp [he]⟩
 rw [hff, List.mem_singleton] at this
 subst this
 exact ⟨h0, hnew⟩)
/-- a slot of which nothing is told -/
theorem RegG.skip (h : RegG sz S fs St a0 L a w) {i s : Nat} {v : Value} (hc : (decide (s < sz) && S.contains s && fs.all fun f => f.op == i || f.slot != s) = true) (hst : ∀ f ∈ fs, f.op ≠ i → f.dead ≠ some i → ∀ v, f.P v w → f.P v w') (hd : St (gone1 L i) w') (hff : (fs.filter fun f => f.op == i) = []) :
  RegG sz S fs St a0 (gone1 L i) (a.put (some s) v) w' := h.upd hc hst hd (fun f hf2 he => by
 have : f ∈ fs.filter fun f => f.op == i := List.mem_filter.2 ⟨hf2, by simp [he]⟩
 rw [hff] at this
 cases this)
end
theorem sameD {fs : List FactD} {i : Nat} (w : World) : ∀ f ∈ fs, f.op ≠ i → f.dead ≠ some i → ∀ v, f.P v w → f.P v w := fun _ _ _ _ _ h => h
/-- facts that stay in whatever is only added -/
def BelowD (fs : List FactD) : Prop := ∀ f ∈ fs, ∀ (w w' : World), Below w.heap.size w w' → ∀ v, f.P v w → f.P v w'
theorem BelowD.at_ {fs : List FactD} (h : BelowD fs) {i : Nat} {w w' : World} (hb : Below w.heap.size w w') : ∀ f ∈ fs, f.op ≠ i → f.dead ≠ some i → ∀ v, f.P v w → f.P v w' := fun f hf _ _ v hv => h f hf w w' hb v hv
theorem yielded_at {ops : Array Oper} {a : Act} {j t : Nat} {b : Bool} (hj : (ops[j]?).bind (·.dst) = some t) (hv : a.eval (.tmp t) = .bool b) : yielded ops a.tmps j = some b := by
 have e : a.tmps[t]? = some (.bool b) := by
  rw [eval_tmp] at hv
  cases h : a.tmps[t]? with
  | none => rw [h] at hv; cases hv
  | some u => rw [h] at hv; rw [show u = .bool b from hv]
 unfold yielded
 simp only [hj, zS, e]
theorem wanted_at {ops : Array Oper} {a : Act} {o : Oper} {j t : Nat} {b want : Bool} (hg : o.guard = some (j, want)) (hj : (ops[j]?).bind (·.dst) = some t) (hv : a.eval (.tmp t) = .bool b) : Region.wanted o (yielded ops a.tmps) = (b == want) := by
 unfold Region.wanted
 simp only [hg, yielded_at hj hv]
 cases b <;> cases want <;> rfl
/-- an operation whose guard is off -/
theorem off_step {P : Program} {ops : Array Oper} {Q : Exit → Act → World → Prop} {K : Act → World → Prop} {a : Act} {w : World} {o : Oper} {j t : Nat} {b want : Bool} (hg : o.guard = some (j, want)) (hj : (ops[j]?).bind (·.dst) = some t) (hv : a.eval (.tmp t) = .bool b) (hb : (b == want) = false) (h : K (a.put o.dst undef) w) : if Region.wanted o (yielded ops a.tmps) = true then Oper.wp P o a w K Q else K (a.put o.dst undef) w := by
 rw [if_neg (by rw [wanted_at hg hj hv, hb]; decide)]
 exact h
/-- .. and one whose guard is on -/
theorem on_step {ops : Array Oper} {a : Act} {o : Oper} {j t : Nat} {b want : Bool} (hg : o.guard = some (j, want)) (hj : (ops[j]?).bind (·.dst) = some t) (hv : a.eval (.tmp t) = .bool b) (hb : (b == want) = true) : Region.wanted o (yielded ops a.tmps) = true := (wanted_at hg hj hv).trans hb
end Go.Proofs.Ytilimpjcdeeaiaa.G


namespace Go.Proofs.Ytilimpjcdeeaiaa.G
open Go.RowKit Go.Proofs.YtilimpjcdeeaiaaW.PrintWords Go.Proofs.YtilimpjcdeeaiaaW.PrintLast Go.Proofs.YtilimpjcdeeaiaaW.PrintMore
attribute [local go_sem] max2_int min2_int max_two min_two max_three min_three max_four min_four   -- for this text's walks alone
section
variable {ev : Operand → Value} {w : World} {dst : Option Tmp} {ty : TypeId} {pos : String} {aft : Array Edge} {gd : Option (Nat × Bool)}
theorem run_move {x : Operand} {v : Value} (hx : ev x = v) : (execOp ev ⟨dst, .move x, ty, pos, aft, gd⟩).run Try.prog w = .ok (.value v) w := by
 go_simp
theorem run_add {x y : Operand} {m n : Int} {u : TypeId} (hx : ev x = .int .i64 m) (hy : ev y = .int .i64 n) : (execOp ev ⟨dst, .binOp .add u x y 3, ty, pos, aft, gd⟩).run Try.prog w = .ok (.value (.int .i64 (IntKind.i64.wrap (m + n)))) w := by
 go_simp
theorem run_sub {x y : Operand} {m n : Int} {u : TypeId} (hx : ev x = .int .i64 m) (hy : ev y = .int .i64 n) : (execOp ev ⟨dst, .binOp .sub u x y 3, ty, pos, aft, gd⟩).run Try.prog w = .ok (.value (.int .i64 (IntKind.i64.wrap (m - n)))) w := by
 go_simp
theorem run_index {s x : Operand} {k n cp : Nat} {i : Int} (hs : ev s = .slice (some ⟨k, 0, none⟩) n cp) (hx : ev x = .int .i64 i) (h0 : 0 ≤ i) (h1 : i < n) : (execOp ev ⟨dst, .indexAddr 36 s x, ty, pos, aft, gd⟩).run Try.prog w = .ok (.value (.pointer (some ⟨k, i.toNat, none⟩))) w := by
 go_simp
theorem run_loadInt {p : Operand} {ad : Addr} {x : Int} (hp : ev p = .pointer (some ad)) (hc : w.cell? ad = some (.int .i64 x)) : (execOp ev ⟨dst, .load 3 p, ty, pos, aft, gd⟩).run Try.prog w = .ok (.value (.int .i64 x)) w := by
 go_simp
theorem run_storeInt {p x : Operand} {k j : Nat} {y z : Int} (hp : ev p = .pointer (some ⟨k, j, none⟩)) (hx : ev x = .int .i64 y) (hc : w.cell? ⟨k, j, none⟩ = some (.int .i64 z)) (hf : w.frozen? ⟨k, j, none⟩ = false) : (execOp ev ⟨dst, .store 3 p x, ty, pos, aft, gd⟩).run Try.prog w = .ok .skip (w.setCell ⟨k, j, none⟩ (.int .i64 y)) := by
 go_simp
theorem run_row3 {x0 x1 x2 : Operand} {a0 a1 a2 : Int} (h0 : ev x0 = .int .i64 a0) (h1 : ev x1 = .int .i64 a1) (h2 : ev x2 = .int .i64 a2) : (execOp ev ⟨dst, .buildSlice 36 3 #[(0, x0), (1, x1), (2, x2)], ty, pos, aft, gd⟩).run Try.prog w = .ok (.value (.slice (some ⟨w.heap.size, 0, none⟩) 3 3)) (w.alloc (.cells (nums .i64 [a0, a1, a2]).toArray 3 (0, 0))) := by
 go_simp
 rfl
theorem run_row4 {x0 x1 x2 x3 : Operand} {a0 a1 a2 a3 : Int} (h0 : ev x0 = .int .i64 a0) (h1 : ev x1 = .int .i64 a1) (h2 : ev x2 = .int .i64 a2) (h3 : ev x3 = .int .i64 a3) : (execOp ev ⟨dst, .buildSlice 36 4 #[(0, x0), (1, x1), (2, x2), (3, x3)], ty, pos, aft, gd⟩).run Try.prog w = .ok (.value (.slice (some ⟨w.heap.size, 0, none⟩) 4 4)) (w.alloc (.cells (nums .i64 [a0, a1, a2, a3]).toArray 3 (0, 0))) := by
 go_simp
 rfl
theorem run_row5 {x0 x1 x2 x3 x4 : Operand} {a0 a1 a2 a3 a4 : Int} (h0 : ev x0 = .int .i64 a0) (h1 : ev x1 = .int .i64 a1) (h2 : ev x2 = .int .i64 a2) (h3 : ev x3 = .int .i64 a3) (h4 : ev x4 = .int .i64 a4) : (execOp ev ⟨dst, .buildSlice 36 5 #[(0, x0), (1, x1), (2, x2), (3, x3), (4, x4)], ty, pos, aft, gd⟩).run Try.prog w = .ok (.value (.slice (some ⟨w.heap.size, 0, none⟩) 5 5)) (w.alloc (.cells (nums .i64 [a0, a1, a2, a3, a4]).toArray 3 (0, 0))) := by
 go_simp
 rfl
theorem run_call1 {a : Act} {f : FuncId} {x : Operand} {ats : Array TypeId} {u : Value} (hf : ∀ args W, (callFunc f args).run Try.prog W = .ok (.enter f args) W) (hx : a.eval x = u) : (execOp a.eval ⟨dst, .call { callee := .value (.func f), args := #[x], argTypes := ats }, ty, pos, aft, gd⟩).run Try.prog w = .ok (.enter f #[u]) w := by
 have e : execOp a.eval ⟨dst, .call { callee := .value (.func f), args := #[x], argTypes := ats }, ty, pos, aft, gd⟩ = callFunc f (#[] ++ #[x].map a.eval ++ #[]) := execOp_call_go a dst f _ ats ty pos aft gd
 rw [e, show (#[] ++ #[x].map a.eval ++ #[] : Array Value) = #[u] by rw [← hx]; simp]
 exact hf _ w
theorem run_call2 {a : Act} {f : FuncId} {x y : Operand} {ats : Array TypeId} {u v : Value} (hf : ∀ args W, (callFunc f args).run Try.prog W = .ok (.enter f args) W) (hx : a.eval x = u) (hy : a.eval y = v) : (execOp a.eval ⟨dst, .call { callee := .value (.func f), args := #[x, y], argTypes := ats }, ty, pos, aft, gd⟩).run Try.prog w = .ok (.enter f #[u, v]) w := by
 have e : execOp a.eval ⟨dst, .call { callee := .value (.func f), args := #[x, y], argTypes := ats }, ty, pos, aft, gd⟩ = callFunc f (#[] ++ #[x, y].map a.eval ++ #[]) := execOp_call_go a dst f _ ats ty pos aft gd
 rw [e, show (#[] ++ #[x, y].map a.eval ++ #[] : Array Value) = #[u, v] by rw [← hx, ← hy]; simp]
 exact hf _ w
theorem call_pick (args : Array Value) (W : World) : (callFunc 51 args).run Try.prog W = .ok (.enter 51 args) W := by go_simp
theorem call_odd (args : Array Value) (W : World) : (callFunc 105 args).run Try.prog W = .ok (.enter 105 args) W := by go_simp
end
section
variable {ops : Array Oper} {a : Act} {w : World} {Q : Exit → Act → World → Prop} {Kc : Act → World → Prop} {dst : Option Tmp} {ty : TypeId} {pos : String} {aft : Array Edge}
theorem skip_step {P : Program} {o : Oper} {w1 : World} (hw : Region.wanted o (yielded ops a.tmps) = true) (hrun : (execOp a.eval o).run P w = .ok .skip w1) (h : Kc (a.put o.dst undef) w1) : if Region.wanted o (yielded ops a.tmps) = true then Oper.wp P o a w Kc Q else Kc (a.put o.dst undef) w := by
 rw [if_pos hw]
 unfold Oper.wp
 rw [hrun]
 exact h
theorem stp_call1 {f : FuncId} {x : Operand} {ats : Array TypeId} {u : Value} (hf : ∀ args W, (callFunc f args).run Try.prog W = .ok (.enter f args) W) (hx : a.eval x = u) (h : Calls Try.prog f #[u] w fun e w' => ∃ v, e = .returned v ∧ Kc (a.put dst v) w') :
  if Region.wanted (⟨dst, .call { callee := .value (.func f), args := #[x], argTypes := ats }, ty, pos, aft, none⟩ : Oper) (yielded ops a.tmps) = true then Oper.wp Try.prog (⟨dst, .call { callee := .value (.func f), args := #[x], argTypes := ats }, ty, pos, aft, none⟩ : Oper) a w Kc Q else Kc (a.put dst undef) w := by
 rw [if_pos (show Region.wanted _ _ = true from rfl)]
 unfold Oper.wp
 rw [run_call1 hf hx]
 refine h.mono ?_
 rintro e w' ⟨v, rfl, hk⟩
 exact hk
theorem stp_call2 {f : FuncId} {x y : Operand} {ats : Array TypeId} {u v : Value} {gd : Option (Nat × Bool)} (hw : Region.wanted (⟨dst, .call { callee := .value (.func f), args := #[x, y], argTypes := ats }, ty, pos, aft, gd⟩ : Oper) (yielded ops a.tmps) = true) (hf : ∀ args W, (callFunc f args).run Try.prog W = .ok (.enter f args) W) (hx : a.eval x = u) (hy : a.eval y = v) (h : Calls Try.prog f #[u, v] w fun e w' => ∃ v, e = .returned v ∧ Kc (a.put dst v) w') :
  if Region.wanted (⟨dst, .call { callee := .value (.func f), args := #[x, y], argTypes := ats }, ty, pos, aft, gd⟩ : Oper) (yielded ops a.tmps) = true then Oper.wp Try.prog (⟨dst, .call { callee := .value (.func f), args := #[x, y], argTypes := ats }, ty, pos, aft, gd⟩ : Oper) a w Kc Q else Kc (a.put dst undef) w := by
 rw [if_pos hw]
 unfold Oper.wp
 rw [run_call2 hf hx hy]
 refine h.mono ?_
 rintro e w' ⟨v, rfl, hk⟩
 exact hk
theorem stp_pick {x y : Operand} {ats : Array TypeId} {w0 ws : World} {g m : Nat} {c : List Int} {n : Int} (hx : a.eval x = .pointer (some ⟨g, 0, none⟩)) (hy : a.eval y = .int .i64 n) (hD : DrS w0 ws w g c m) (hm : m ≤ 1000000000000) (hgs : g < ws.heap.size)
  (h : ∀ (z : Int) (w' : World), 0 ≤ z → (z < n ∨ n < 2 ∧ z = 0) → DrS w0 ws w' g c (m + 2) → KeptOn ws.heap.size w w' → Kc (a.put dst (.int .i64 z)) w') :
  if Region.wanted (⟨dst, .call { callee := .value (.func 51), args := #[x, y], argTypes := ats }, ty, pos, aft, none⟩ : Oper) (yielded ops a.tmps) = true then Oper.wp Try.prog (⟨dst, .call { callee := .value (.func 51), args := #[x, y], argTypes := ats }, ty, pos, aft, none⟩ : Oper) a w Kc Q else Kc (a.put dst undef) w := by
 rw [if_pos (show Region.wanted _ _ = true from rfl)]
 unfold Oper.wp
 rw [run_call2 call_pick hx hy]
 refine (hD.cur.pick hD.below hm n).mono ?_
 rintro e w' ⟨z, rfl, hz, hd⟩
 exact h z w' hz.1 hz.2 (hD.then_ hd) (.of_keep hd.keep hgs)
end
end Go.Proofs.Ytilimpjcdeeaiaa.G


namespace Go.Proofs.Ytilimpjcdeeaiaa.G
open Go.RowKit Go.Proofs.YtilimpjcdeeaiaaW.PrintWords Go.Proofs.YtilimpjcdeeaiaaW.PrintLast Go.Proofs.YtilimpjcdeeaiaaW.PrintMore
attribute [local go_sem] max2_int min2_int max_two min_two max_three min_three max_four min_four   -- for this text's walks alone
--import Derived.Deep.RegionLaw
--import Derived.IntWalk
--import Derived.Laws.NewBlocks
/-- a script whose rows are short -/
def ShortS (n : Nat) (l : List S38) : Prop := ∀ s ∈ l, s.f0.length ≤ n
theorem ShortS.push {n : Nat} {l : List S38} (h : ShortS n l) {x : S38} (hx : x.f0.length ≤ n) : ShortS n (l ++ [x]) := fun s hs => by
 rcases List.mem_append.1 hs with hs | hs
 ·exact h s hs
 ·rw [List.mem_singleton.1 hs]; exact hx
theorem ShortS.set {n : Nat} {l : List S38} (h : ShortS n l) {x : S38} (hx : x.f0.length ≤ n) (k : Nat) : ShortS n (l.set k x) := fun s hs => by
 rcases List.mem_or_eq_of_mem_set hs with hs | hs
 ·exact h s hs
 ·rw [hs]; exact hx
theorem ShortS.rd {n : Nat} {l : List S38} (h : ShortS n l) (i : Int) : (rd_T38 l i).f0.length ≤ n := by
 unfold rd_T38
 rcases Nat.lt_or_ge i.toNat l.length with hk | hk
 ·rw [List.getD_eq_getElem?_getD, List.getElem?_eq_getElem hk]
  exact h _ (List.getElem_mem hk)
 ·rw [List.getD_eq_getElem?_getD, List.getElem?_eq_none hk]
  exact Nat.zero_le _
theorem S_empty {W : World} {base g : Nat} {ok : Nat → Prop} (hb : base ≤ g) (ho : ok g) (h : W.heap[g]? = some (.cells #[] 38 (0, 0))) : Kd.S k38 38 W base ok (.slice (some ⟨g, 0, none⟩) 0 0) [] :=
 ⟨fun _ => 0, ⟨fun k hk => by injection hk with hk; subst hk; exact ho, [], ⟨rfl, .inr ⟨g, 0, #[], rfl, hb, h, Nat.le_refl _, by decide, rfl, rfl⟩⟩, Reps.none _ _⟩⟩
/-- the scans while they are copied: rows of their own -/
structure SpS (w0 w W : World) (g : Nat) (c : List Int) (m : Nat) (v : Value) (out : List S38) : Prop where
 d : DrS w0 w W g c m
 s : Kd.S k38 38 W w.heap.size (fun k => w.heap.size ≤ k) v out
 b : ShortS 5 out
theorem SpS.below {w0 w W W' : World} {g : Nat} {c : List Int} {m : Nat} {v : Value} {out : List S38} (h : SpS w0 w W g c m v out) (hb : Below W.heap.size W W') : SpS w0 w W' g c m v out := ⟨h.d.below_ hb, Kd.S_below h.s hb, h.b⟩
theorem SpS.keep {w0 w W W' : World} {g : Nat} {c : List Int} {m m' : Nat} {v : Value} {out : List S38} (h : SpS w0 w W g c m v out) (hg : g < w.heap.size) (hd : DrS w0 W W' g c m') : SpS w0 w W' g c m' v out := ⟨h.d.then_ hd, Kd.S_keep h.s hd.keep (fun k hk => by omega), h.b⟩
theorem SpS.push {w0 w W W1 W2 : World} {g : Nat} {c : List Int} {m : Nat} {v v' : Value} {out out' : List S38} (h : SpS w0 w W g c m v out) (hg : g < w.heap.size) (hb : Below W.heap.size W W1) (hs : Kd.S k38 38 W2 w.heap.size (fun k => w.heap.size ≤ k) v' out') (hr : W1.grownBy W2 v.ownBlock) (hl : ShortS 5 out') : SpS w0 w W2 g c m v' out' :=
 ⟨(h.d.below_ hb).grown hg hr (fun k hk => Kd.S_base h.s k hk), hs, hl⟩
/-- the chosen scan is lent: its box, and the scans without it -/
structure SpH (w0 w W : World) (g : Nat) (c : List Int) (m gs go n cp k : Nat) (out : List S38) (A0 : Option Addr) (c0 : Nat) (x : List Int) : Prop where
 d : DrS w0 w W g c m
 box : ∃ y1 y2 y3 y4 : Int, W.heap[gs]? = some (.cells #[.slice A0 x.length c0, .int .i64 y1, .int .i64 y2, .int .i64 y3, .int .i64 y4] 38 (0, 0))
 gs0 : w.heap.size ≤ gs
 h : ∃ (oki : Nat → Prop) (e1 e2 e3 e4 : Int), Kd.H k38 38 W w.heap.size (fun k => w.heap.size ≤ k ∧ k ≠ gs) (.slice (some ⟨go, 0, none⟩) n cp) out (k : Int) oki [.slice A0 x.length c0, .int .i64 e1, .int .i64 e2, .int .i64 e3, .int .i64 e4] ∧ Kd.R (Kd.int .i64) 3 W w.heap.size oki (.slice A0 x.length c0) x ∧ ∀ k, oki k → (w.heap.size ≤ k ∧ k ≠ gs) ∧ k ≠ go
 b : ShortS 5 out
 xl : x.length ≤ 5
 xc : x.length ≤ c0
 nl : n = out.length
 kl : k < n
 go0 : w.heap.size ≤ go
 gsgo : go ≠ gs
theorem SpH.keep {w0 w W W' : World} {g : Nat} {c : List Int} {m m' gs go n cp k : Nat} {out : List S38} {A0 : Option Addr} {c0 : Nat} {x : List Int} (h : SpH w0 w W g c m gs go n cp k out A0 c0 x) (hg : g < w.heap.size) (hd : DrS w0 W W' g c m') : SpH w0 w W' g c m' gs go n cp k out A0 c0 x := by
 obtain ⟨y1, y2, y3, y4, hb⟩ := h.box
 obtain ⟨oki, e1, e2, e3, e4, h1, h2, h3⟩ := h.h
 exact ⟨h.d.then_ hd, ⟨y1, y2, y3, y4, (hd.keep.2 gs (blk_lt hb) (by have := h.gs0; omega) (by simp)).trans hb⟩, h.gs0, ⟨oki, e1, e2, e3, e4, Kd.H_keep h1 hd.keep (fun k hk => by omega), Kd.R_keep h2 hd.keep (fun k hk => by have := h3 k hk; omega), h3⟩, h.b, h.xl, h.xc, h.nl, h.kl, h.go0, h.gsgo⟩
theorem SpH.up {w0 w W : World} {g : Nat} {c : List Int} {m m' gs go n cp k : Nat} {out : List S38} {A0 : Option Addr} {c0 : Nat} {x : List Int} (h : SpH w0 w W g c m gs go n cp k out A0 c0 x) (hm : m ≤ m') : SpH w0 w W g c m' gs go n cp k out A0 c0 x := { h with d := h.d.up hm }
theorem SpH.alloc {w0 w W : World} {g : Nat} {c : List Int} {m gs go n cp k : Nat} {out : List S38} {A0 : Option Addr} {c0 : Nat} {x : List Int} (h : SpH w0 w W g c m gs go n cp k out A0 c0 x) (o : Obj) : SpH w0 w (W.alloc o) g c m gs go n cp k out A0 c0 x := by
 obtain ⟨y1, y2, y3, y4, hb⟩ := h.box
 obtain ⟨oki, e1, e2, e3, e4, h1, h2, h3⟩ := h.h
 exact ⟨h.d.alloc o, ⟨y1, y2, y3, y4, zD hb o⟩, h.gs0, ⟨oki, e1, e2, e3, e4, Kd.H_alloc h1 o, zN h2 o, h3⟩, h.b, h.xl, h.xc, h.nl, h.kl, h.go0, h.gsgo⟩
theorem SpH.drew {w0 w W : World} {g : Nat} {c : List Int} {m gs go n cp k : Nat} {out : List S38} {A0 : Option Addr} {c0 : Nat} {x : List Int} (h : SpH w0 w W g c m gs go n cp k out A0 c0 x) : SpH w0 w W.drew g c m gs go n cp k out A0 c0 x := by
 obtain ⟨oki, e1, e2, e3, e4, h1, h2, h3⟩ := h.h
 exact ⟨h.d.drew, h.box, h.gs0, ⟨oki, e1, e2, e3, e4, Kd.H_drew h1, zO h2, h3⟩, h.b, h.xl, h.xc, h.nl, h.kl, h.go0, h.gsgo⟩
theorem SpH.put {w0 w W : World} {g : Nat} {c : List Int} {m gs go n cp k : Nat} {out : List S38} {A0 : Option Addr} {c0 : Nat} {x : List Int} (h : SpH w0 w W g c m gs go n cp k out A0 c0 x) (hg : g < w.heap.size) (j : Nat) (j1 : 1 ≤ j) (j5 : j < 5) (y : Int) : SpH w0 w (W.setCell ⟨gs, j, none⟩ (.int .i64 y)) g c m gs go n cp k out A0 c0 x := by
 obtain ⟨y1, y2, y3, y4, hb⟩ := h.box
 obtain ⟨oki, e1, e2, e3, e4, h1, h2, h3⟩ := h.h
 have hb2 := blk_set hb j (.int .i64 y)
 refine ⟨h.d.set hg h.gs0 j _, ?_, h.gs0, ⟨oki, e1, e2, e3, e4, Kd.H_far h1 (p := ⟨gs, j, none⟩) (fun k hk => hk.2) _, Kd.R_far h2 (p := ⟨gs, j, none⟩) (fun k hk => (h3 k hk).1.2) _, h3⟩, h.b, h.xl, h.xc, h.nl, h.kl, h.go0, h.gsgo⟩
 obtain rfl | rfl | rfl | rfl : j = 1 ∨ j = 2 ∨ j = 3 ∨ j = 4 := by omega
 ·exact ⟨y, y2, y3, y4, by simpa using hb2⟩
 ·exact ⟨y1, y, y3, y4, by simpa using hb2⟩
 ·exact ⟨y1, y2, y, y4, by simpa using hb2⟩
 ·exact ⟨y1, y2, y3, y, by simpa using hb2⟩
theorem SpH.toS {w0 w W : World} {g : Nat} {c : List Int} {m gs go n cp k : Nat} {out : List S38} {A0 : Option Addr} {c0 : Nat} {x : List Int} (h : SpH w0 w W g c m gs go n cp k out A0 c0 x) : ∃ out' : List S38, out'.length = out.length ∧ ShortS 5 out' ∧ Kd.S k38 38 W w.heap.size (fun k => w.heap.size ≤ k ∧ k ≠ gs) (.slice (some ⟨go, 0, none⟩) n cp) out' := by
 obtain ⟨oki, e1, e2, e3, e4, h1, h2, h3⟩ := h.h
 exact ⟨out.set k ⟨x, e1, e2, e3, e4⟩, List.length_set, h.b.set h.xl k, by
  have := Kd.H_back h1 (x' := ⟨x, e1, e2, e3, e4⟩) (k38_mkM W w.heap.size oki ⟨x, e1, e2, e3, e4⟩ h2) (fun _ hk => hk)
  simpa using this⟩
theorem SpS.lend {w0 w W : World} {g : Nat} {c : List Int} {m go cp : Nat} {out : List S38} (h : SpS w0 w W g c m (.slice (some ⟨go, 0, none⟩) out.length cp) out) (k : Nat) (hk : k < out.length) :
  ∃ (A0 : Option Addr) (c0 : Nat) (x : List Int) (e1 e2 e3 e4 : Int), x.length ≤ 5 ∧ (W.cell? ⟨go, k * 5, none⟩ = some (.slice A0 x.length c0) ∧ W.cell? ⟨go, k * 5 + 1, none⟩ = some (.int .i64 e1) ∧ W.cell? ⟨go, k * 5 + 2, none⟩ = some (.int .i64 e2) ∧ W.cell? ⟨go, k * 5 + 3, none⟩ = some (.int .i64 e3) ∧ W.cell? ⟨go, k * 5 + 4, none⟩ = some (.int .i64 e4)) ∧
   SpH w0 w (W.alloc (.cells #[.slice A0 x.length c0, .int .i64 e1, .int .i64 e2, .int .i64 e3, .int .i64 e4] 38)) g c m W.heap.size go out.length cp k out A0 c0 x := by
 have hs : Kd.S k38 38 W w.heap.size (fun k => w.heap.size ≤ k ∧ k ≠ W.heap.size) (.slice (some ⟨go, 0, none⟩) out.length cp) out := Kd.S_elderB h.s _ (Nat.le_refl _)
 have hgo := Kd.S_lt h.s go (by simp [Value.ownBlock])
 have hgo0 := Kd.S_base h.s go (by simp [Value.ownBlock])
 obtain ⟨oki, cc, hcl, hM, hcc, hfr, hoki, hH⟩ := Kd.S_elem hs z38 (k : Int) (by omega) (by omega)
 obtain ⟨v0, rfl, hR⟩ := k38_openM hM
 obtain ⟨A0, c0, rfl⟩ := Kd.R_slice hR
 have hxl := h.b.rd (k : Int)
 have i0 := hcc 0 _ rfl
 have i1 := hcc 1 _ rfl
 have i2 := hcc 2 _ rfl
 have i3 := hcc 3 _ rfl
 have i4 := hcc 4 _ rfl
 simp only [show (k38).sz = 5 from rfl, Int.toNat_natCast, Nat.add_zero] at i0 i1 i2 i3 i4
 exact ⟨A0, c0, _, _, _, _, _, hxl, ⟨i0, i1, i2, i3, i4⟩, h.d.alloc _, ⟨_, _, _, _, blk_new _ _⟩, h.d.keep.1, ⟨oki, _, _, _, _, Kd.H_alloc hH _, zN hR _, hoki⟩, h.b, hxl, (yK hR).2.1, rfl, hk, hgo0, by omega⟩
/-- the box ahead of the store into the scans: these are only read any more -/
structure SpN (w0 w W : World) (g : Nat) (c : List Int) (m gs : Nat) (A : Option Addr) (n cp k N : Nat) : Prop where
 d : DrS w0 w W g c m
 gs0 : w.heap.size ≤ gs
 box : ∃ (A0 : Option Addr) (c0 : Nat) (x : List Int) (y1 y2 y3 y4 : Int), W.heap[gs]? = some (.cells #[.slice A0 x.length c0, .int .i64 y1, .int .i64 y2, .int .i64 y3, .int .i64 y4] 38 (0, 0)) ∧ x.length ≤ c0 ∧ x.length ≤ 6 ∧ Kd.F (Kd.int .i64) W (fun k => (w.heap.size ≤ k ∧ k ≠ gs) ∧ some k ≠ (Value.slice A n cp).ownBlock) A0 x.length x
 nn : ∃ out : List S38, out.length = n ∧ n ≤ N ∧ ShortS 6 out ∧ Kd.N k38 38 W w.heap.size (fun k => w.heap.size ≤ k ∧ k ≠ gs) (.slice A n cp) out
 kl : k < n
theorem ShortS.up {n m : Nat} {l : List S38} (h : ShortS n l) (hm : n ≤ m) : ShortS m l := fun s hs => Nat.le_trans (h s hs) hm
theorem SpH.toN {w0 w W : World} {g : Nat} {c : List Int} {m gs go n cp k : Nat} {out : List S38} {A0 : Option Addr} {c0 : Nat} {x : List Int} (h : SpH w0 w W g c m gs go n cp k out A0 c0 x) : SpN w0 w W g c m gs (some ⟨go, 0, none⟩) n cp k (n + 42) := by
 obtain ⟨out', hl, hb, hS⟩ := h.toS
 obtain ⟨y1, y2, y3, y4, hbx⟩ := h.box
 obtain ⟨oki, e1, e2, e3, e4, h1, h2, h3⟩ := h.h
 refine ⟨h.d, h.gs0, ⟨A0, c0, x, y1, y2, y3, y4, hbx, h.xc, by have := h.xl; omega, Kd.F_mono (Kd.R_F h2) (fun k hk => ⟨(h3 k hk).1, fun e => (h3 k hk).2 (by injection e)⟩)⟩, ⟨out', by rw [hl, ← h.nl], by omega, hb.up (by decide), Kd.S_N hS⟩, h.kl⟩
theorem SpN.mono {w0 w W : World} {g : Nat} {c : List Int} {m m' gs : Nat} {A : Option Addr} {n cp k N N' : Nat} (h : SpN w0 w W g c m gs A n cp k N) (hm : m ≤ m') (hN : N ≤ N') : SpN w0 w W g c m' gs A n cp k N' := by
 obtain ⟨out, h1, h2, h3, h4⟩ := h.nn
 exact ⟨h.d.up hm, h.gs0, h.box, ⟨out, h1, by omega, h3, h4⟩, h.kl⟩
/-- the chosen scan in its box, the scans with a hole -/
structure SpG (w0 w W : World) (g : Nat) (c : List Int) (m gs go n cp k : Nat) (out : List S38) : Prop where
 d : DrS w0 w W g c m
 box : ∃ (A0 : Option Addr) (c0 : Nat) (x : List Int) (y1 y2 y3 y4 : Int) (oki : Nat → Prop) (cc : List Value), W.heap[gs]? = some (.cells #[.slice A0 x.length c0, .int .i64 y1, .int .i64 y2, .int .i64 y3, .int .i64 y4] 38 (0, 0)) ∧ x.length ≤ 6 ∧ cc.length = 5 ∧
  Kd.H k38 38 W w.heap.size (fun k => w.heap.size ≤ k ∧ k ≠ gs) (.slice (some ⟨go, 0, none⟩) n cp) out (k : Int) oki cc ∧ Kd.R (Kd.int .i64) 3 W w.heap.size oki (.slice A0 x.length c0) x ∧ ∀ k, oki k → (w.heap.size ≤ k ∧ k ≠ gs) ∧ k ≠ go
 b : ShortS 5 out
 nl : n = out.length
 kl : k < n
 go0 : w.heap.size ≤ go
theorem SpH.toG {w0 w W : World} {g : Nat} {c : List Int} {m gs go n cp k : Nat} {out : List S38} {A0 : Option Addr} {c0 : Nat} {x : List Int} (h : SpH w0 w W g c m gs go n cp k out A0 c0 x) : SpG w0 w W g c m gs go n cp k out := by
 obtain ⟨y1, y2, y3, y4, hb⟩ := h.box
 obtain ⟨oki, e1, e2, e3, e4, h1, h2, h3⟩ := h.h
 exact ⟨h.d, ⟨A0, c0, x, y1, y2, y3, y4, oki, _, hb, by have := h.xl; omega, rfl, h1, h2, h3⟩, h.b, h.nl, h.kl, h.go0⟩
/-- the box's row is another one, of new blocks or grown -/
theorem SpH.repl {w0 w W : World} {g : Nat} {c : List Int} {m gs go n cp k : Nat} {out : List S38} {A0 : Option Addr} {c0 : Nat} {x : List Int} (h : SpH w0 w W g c m gs go n cp k out A0 c0 x) (hg : g < w.heap.size) :
  ∃ oki : Nat → Prop, (∀ k, W.heap.size ≤ k → oki k) ∧ Kd.R (Kd.int .i64) 3 W w.heap.size oki (.slice A0 x.length c0) x ∧ ∀ (row : Option Nat) (A1 : Option Addr) (c1 : Nat) (x' : List Int) (W1 : World), x'.length ≤ 6 → W.grownBy W1 row → (∀ k, row = some k → oki k) → Kd.R (Kd.int .i64) 3 W1 w.heap.size oki (.slice A1 x'.length c1) x' →
   (W1.cell? ⟨gs, 0, none⟩ = some (.slice A0 x.length c0) ∧ W1.frozen? ⟨gs, 0, none⟩ = false) ∧ SpG w0 w (W1.setCell ⟨gs, 0, none⟩ (.slice A1 x'.length c1)) g c m gs go n cp k out := by
 obtain ⟨y1, y2, y3, y4, hb⟩ := h.box
 obtain ⟨oki, e1, e2, e3, e4, h1, h2, h3⟩ := h.h
 have hlt := blk_lt hb
 have hgo : go < W.heap.size := by
  have := Kd.S_lt h.toS.choose_spec.2.2 go (by simp [Value.ownBlock])
  exact this
 refine ⟨fun k => oki k ∨ (w.heap.size ≤ k ∧ k ≠ gs) ∧ W.heap.size ≤ k, fun k hk => .inr ⟨⟨Nat.le_trans h.d.keep.1 hk, by omega⟩, hk⟩, zP h2 (fun _ hk => .inl hk), fun row A1 c1 x' W1 hx hgr hrow hR => ?_⟩
 have hn : ∀ k, (oki k ∨ (w.heap.size ≤ k ∧ k ≠ gs) ∧ W.heap.size ≤ k) → (w.heap.size ≤ k ∧ k ≠ gs) ∧ k ≠ go := fun k hk => by
  rcases hk with hk | hk
  ·exact h3 k hk
  ·exact ⟨hk.1, by omega⟩
 have hb1 := blk_grown hb hgr (fun e => (hn gs (hrow gs e.symm)).1.2 rfl)
 have c1' := zK hb1 0
 simp at c1'
 have hb2 := blk_set hb1 0 (.slice A1 x'.length c1)
 refine ⟨⟨c1', zJ hb1 0⟩, (h.d.grown hg hgr (fun k hk => (hn k (hrow k hk)).1.1)).set hg h.gs0 0 _, ⟨A1, c1, x', y1, y2, y3, y4, _, _, by simpa using hb2, hx, rfl, Kd.H_far (Kd.H_grown (Kd.H_widen h1) hgr hrow) (p := ⟨gs, 0, none⟩) (fun k hk => hk.2) _, Kd.R_far hR (p := ⟨gs, 0, none⟩) (fun k hk => (hn k hk).1.2) _, hn⟩, h.b, h.nl, h.kl, h.go0⟩
/-- the store into the scans and what is behind it -/
def SpE (w0 w W : World) (g : Nat) (c : List Int) (m gs go n cp k N : Nat) : Prop :=
 ∃ (A0 : Option Addr) (c0 : Nat) (x : List Int) (y1 y2 y3 y4 : Int) (d0 d1 d2 d3 d4 : Value), W.heap[gs]? = some (.cells #[.slice A0 x.length c0, .int .i64 y1, .int .i64 y2, .int .i64 y3, .int .i64 y4] 38 (0, 0)) ∧
  (W.cell? ⟨go, k * 5, none⟩ = some d0 ∧ W.cell? ⟨go, k * 5 + 1, none⟩ = some d1 ∧ W.cell? ⟨go, k * 5 + 2, none⟩ = some d2 ∧ W.cell? ⟨go, k * 5 + 3, none⟩ = some d3 ∧ W.cell? ⟨go, k * 5 + 4, none⟩ = some d4) ∧
  (W.frozen? ⟨go, k * 5, none⟩ = false ∧ W.frozen? ⟨go, k * 5 + 1, none⟩ = false ∧ W.frozen? ⟨go, k * 5 + 2, none⟩ = false ∧ W.frozen? ⟨go, k * 5 + 3, none⟩ = false ∧ W.frozen? ⟨go, k * 5 + 4, none⟩ = false) ∧ k < n ∧
  DrS w0 w (((((W.setCell ⟨go, k * 5, none⟩ (.slice A0 x.length c0)).setCell ⟨go, k * 5 + 1, none⟩ (.int .i64 y1)).setCell ⟨go, k * 5 + 2, none⟩ (.int .i64 y2)).setCell ⟨go, k * 5 + 3, none⟩ (.int .i64 y3)).setCell ⟨go, k * 5 + 4, none⟩ (.int .i64 y4)) g c m ∧
  ∃ r : List S38, r.length ≤ N ∧ ShortS 6 r ∧ Kd.N k38 38 (((((W.setCell ⟨go, k * 5, none⟩ (.slice A0 x.length c0)).setCell ⟨go, k * 5 + 1, none⟩ (.int .i64 y1)).setCell ⟨go, k * 5 + 2, none⟩ (.int .i64 y2)).setCell ⟨go, k * 5 + 3, none⟩ (.int .i64 y3)).setCell ⟨go, k * 5 + 4, none⟩ (.int .i64 y4)) w.heap.size (fun k => w.heap.size ≤ k) (.slice (some ⟨go, 0, none⟩) n cp) r
theorem SpG.toE {w0 w W : World} {g : Nat} {c : List Int} {m m' gs go n cp k N : Nat} {out : List S38} (h : SpG w0 w W g c m gs go n cp k out) (hg : g < w.heap.size) (hm : m ≤ m') (hN : n ≤ N) : SpE w0 w W g c m' gs go n cp k N := by
 obtain ⟨A0, c0, x, y1, y2, y3, y4, oki, cc, hb, hx, hcl, h1, h2, h3⟩ := h.box
 obtain ⟨rows, _, hraw, _, _, hcc, _⟩ := Kd.H_raw h1 (by omega) (by have := h.kl; omega)
 obtain ⟨cells, hgb⟩ := Kd.R_typed hraw go (by simp [Value.ownBlock])
 obtain ⟨d0, d1, d2, d3, d4, rfl⟩ : ∃ d0 d1 d2 d3 d4, cc = [d0, d1, d2, d3, d4] := by
  match cc, hcl with
  | [d0, d1, d2, d3, d4], _ => exact ⟨d0, d1, d2, d3, d4, rfl⟩
 have i0 := hcc 0 _ rfl
 have i1 := hcc 1 _ rfl
 have i2 := hcc 2 _ rfl
 have i3 := hcc 3 _ rfl
 have i4 := hcc 4 _ rfl
 simp only [show (k38).sz = 5 from rfl, Int.toNat_natCast, Nat.add_zero] at i0 i1 i2 i3 i4
 obtain ⟨hH, hG⟩ := Kd.H_seg h1 (by omega) (by have := h.kl; omega) (seg := [.slice A0 x.length c0, .int .i64 y1, .int .i64 y2, .int .i64 y3, .int .i64 y4]) (j := 0) (show 5 ≤ 5 from by decide) (by intro q hq; simp at hq; rcases hq with rfl | rfl | rfl | rfl | rfl <;> rfl)
 have hR2 : Kd.R (Kd.int .i64) 3 _ w.heap.size oki (.slice A0 x.length c0) x := Kd.R_grown h2 hG (fun k hk e => (h3 k hk).2 (by injection e))
 have hS := Kd.H_back hH (x' := ⟨x, y1, y2, y3, y4⟩) (k38_mkM _ w.heap.size oki ⟨x, y1, y2, y3, y4⟩ hR2) (fun _ hk => hk)
 simp only [show (k38).sz = 5 from rfl, Int.toNat_natCast, Nat.add_zero] at hS hG
 refine ⟨A0, c0, x, y1, y2, y3, y4, d0, d1, d2, d3, d4, hb, ⟨i0, i1, i2, i3, i4⟩, ⟨zJ hgb _, zJ hgb _, zJ hgb _, zJ hgb _, zJ hgb _⟩, h.kl, (h.d.grown hg hG (fun k hk => by injection hk with hk; subst hk; exact h.go0)).up hm, _, ?_, (h.b.up (by decide)).set hx k, Kd.N_mono (Kd.S_N hS) (fun k hk => hk.1)⟩
 rw [List.length_set, ← h.nl]; exact hN
theorem SpN.toE {w0 w W : World} {g : Nat} {c : List Int} {m m' gs go n cp k N N' : Nat} (h : SpN w0 w W g c m gs (some ⟨go, 0, none⟩) n cp k N) (hg : g < w.heap.size) (hm : m ≤ m') (hN : N ≤ N') : SpE w0 w W g c m' gs go n cp k N' := by
 obtain ⟨A0, c0, x, y1, y2, y3, y4, hb, hxc, hx, hF⟩ := h.box
 obtain ⟨out, hl, hnN, hs, hNN⟩ := h.nn
 have hkl := h.kl
 obtain ⟨cc, hcl, hFK, hcc, hfr⟩ := Kd.N_elem hNN z38 (k : Int) (by omega) (by omega)
 obtain ⟨A1, c1, rfl, _, _⟩ := k38_openF hFK
 have hgo0 := Kd.N_base hNN go (by simp [Value.ownBlock])
 have i0 := hcc 0 _ rfl
 have i1 := hcc 1 _ rfl
 have i2 := hcc 2 _ rfl
 have i3 := hcc 3 _ rfl
 have i4 := hcc 4 _ rfl
 have f0 := hfr 0
 have f1 := hfr 1
 have f2 := hfr 2
 have f3 := hfr 3
 have f4 := hfr 4
 obtain ⟨hN2, hG⟩ := Kd.N_seg hNN (k : Int) (by omega) (by omega) (seg := [.slice A0 x.length c0, .int .i64 y1, .int .i64 y2, .int .i64 y3, .int .i64 y4]) (j := 0) hcl hcc (show 5 ≤ 5 from by decide) (x' := ⟨x, y1, y2, y3, y4⟩) (k38_mkF W _ ⟨x, y1, y2, y3, y4⟩ hxc hF) (fun k hk => ⟨hk.1, fun e => hk.2 (by rw [e]; simp [Value.ownBlock])⟩)
 simp only [show (k38).sz = 5 from rfl, Int.toNat_natCast, Nat.add_zero] at i0 i1 i2 i3 i4 f0 f1 f2 f3 f4 hN2 hG
 exact ⟨A0, c0, x, y1, y2, y3, y4, _, _, _, _, _, hb, ⟨i0, i1, i2, i3, i4⟩, ⟨f0, f1, f2, f3, f4⟩, hkl, (h.d.grown hg hG (fun k hk => by injection hk with hk; subst hk; exact hgo0)).up hm, _, by rw [List.length_set]; omega, hs.set hx k, Kd.N_mono hN2 (fun k hk => hk.1)⟩
def PickedH (w0 w W : World) (g : Nat) (c : List Int) (m gs go n cp k : Nat) (out : List S38) (A0 : Option Addr) (c0 : Nat) (x : List Int) (q : Int) (e : Ending) (W' : World) : Prop := ∃ z : Int, e = .returned (.int .i64 z) ∧ 0 ≤ z ∧ z < q ∧ SpH w0 w W' g c (m + 2) gs go n cp k out A0 c0 x ∧ KeptOn w.heap.size W W'
theorem SpH.pick {w0 w W : World} {g : Nat} {c : List Int} {m gs go n cp k : Nat} {out : List S38} {A0 : Option Addr} {c0 : Nat} {x : List Int} (h : SpH w0 w W g c m gs go n cp k out A0 c0 x) (hg : g < w.heap.size) (hm : m ≤ 1000000000000) (q : Int) (hq : 2 ≤ q) : Calls Try.prog 51 #[.pointer (some ⟨g, 0, none⟩), .int .i64 q] W (PickedH w0 w W g c m gs go n cp k out A0 c0 x q) := by
 refine (h.d.cur.pick h.d.below hm q).mono ?_
 rintro e w' ⟨z, rfl, hz, hD⟩
 exact ⟨z, rfl, hz.1, by omega, h.keep hg hD, KeptOn.of_keep hD.keep hg⟩
section
variable {ops : Array Oper} {a : Act} {w : World} {Q : Exit → Act → World → Prop} {Kc : Act → World → Prop} {dst : Option Tmp} {ty : TypeId} {pos : String} {aft : Array Edge}
theorem stp_pickH {x' y : Operand} {ats : Array TypeId} {w0 w1 : World} {g : Nat} {c : List Int} {m gs go n cp k : Nat} {out : List S38} {A0 : Option Addr} {c0 : Nat} {x : List Int} {q : Int} (hx : a.eval x' = .pointer (some ⟨g, 0, none⟩)) (hy : a.eval y = .int .i64 q) (hD : SpH w0 w1 w g c m gs go n cp k out A0 c0 x) (hm : m ≤ 1000000000000) (hg : g < w1.heap.size)
  (h : ∀ (z : Int) (w' : World), 0 ≤ z → (z < q ∨ q < 2 ∧ z = 0) → SpH w0 w1 w' g c (m + 2) gs go n cp k out A0 c0 x → KeptOn w1.heap.size w w' → Kc (a.put dst (.int .i64 z)) w') :
  if Region.wanted (⟨dst, .call { callee := .value (.func 51), args := #[x', y], argTypes := ats }, ty, pos, aft, none⟩ : Oper) (yielded ops a.tmps) = true then Oper.wp Try.prog (⟨dst, .call { callee := .value (.func 51), args := #[x', y], argTypes := ats }, ty, pos, aft, none⟩ : Oper) a w Kc Q else Kc (a.put dst undef) w := by
 rw [if_pos (show Region.wanted _ _ = true from rfl)]
 unfold Oper.wp
 rw [run_call2 call_pick hx hy]
 refine (hD.d.cur.pick hD.d.below hm q).mono ?_
 rintro e w' ⟨z, rfl, hz, hd⟩
 exact h z w' hz.1 hz.2 (hD.keep hg hd) (.of_keep hd.keep hg)
theorem stp_oddH {x' : Operand} {ats : Array TypeId} {w0 w1 : World} {g : Nat} {c : List Int} {m gs go n cp k : Nat} {out : List S38} {A0 : Option Addr} {c0 : Nat} {x : List Int} (hx : a.eval x' = .pointer (some ⟨g, 0, none⟩)) (hD : SpH w0 w1 w g c m gs go n cp k out A0 c0 x) (hm : m ≤ 1000000000000) (hg : g < w1.heap.size)
  (h : ∀ (z : Int) (w' : World), SpH w0 w1 w' g c (m + 2) gs go n cp k out A0 c0 x → KeptOn w1.heap.size w w' → Kc (a.put dst (.int .i64 z)) w') :
  if Region.wanted (⟨dst, .call { callee := .value (.func 105), args := #[x'], argTypes := ats }, ty, pos, aft, none⟩ : Oper) (yielded ops a.tmps) = true then Oper.wp Try.prog (⟨dst, .call { callee := .value (.func 105), args := #[x'], argTypes := ats }, ty, pos, aft, none⟩ : Oper) a w Kc Q else Kc (a.put dst undef) w := by
 rw [if_pos (show Region.wanted _ _ = true from rfl)]
 unfold Oper.wp
 rw [run_call1 call_odd hx]
 refine (hD.d.cur.odd hD.d.below hm).mono ?_
 rintro e w' ⟨z, rfl, hd⟩
 exact h z w' (hD.keep hg hd) (.of_keep hd.keep hg)
theorem run_fieldS {ev : Operand → Value} {gd : Option (Nat × Bool)} {p : Operand} {k j : Nat} (hj : j < 5) (hp : ev p = .pointer (some ⟨k, 0, none⟩)) : (execOp ev ⟨dst, .fieldAddr 38 p j, ty, pos, aft, gd⟩).run Try.prog w = .ok (.value (.pointer (some ⟨k, j, none⟩))) w := by
 obtain rfl | rfl | rfl | rfl | rfl : j = 0 ∨ j = 1 ∨ j = 2 ∨ j = 3 ∨ j = 4 := by omega
 all_goals (clear hj; go_simp)
end
def SpR13L (b : Nat) (g gs : Nat) : List FactD := [⟨0, none, 45, fun v _ => v = .pointer (some ⟨gs, 1, none⟩)⟩, ⟨1, none, 46, fun v _ => NumV v⟩, ⟨2, none, 47, fun v _ => NumV v⟩, ⟨3, none, 48, fun v _ => v = .pointer (some ⟨g, 0, none⟩)⟩, ⟨4, none, 49, fun v _ => NumV v⟩, ⟨5, some 8, 50, fun v w => RowV b 3 v w⟩, ⟨6, none, 51, fun v _ => v = .pointer (some ⟨g, 0, none⟩)⟩, ⟨7, none, 52, fun v _ => NumB 3 v⟩, ⟨8, some 9, 53, fun v w => CellV b v w⟩, ⟨9, none, 54, fun v _ => NumV v⟩, ⟨10, none, 55, fun v _ => v = .pointer (some ⟨gs, 1, none⟩)⟩]
theorem SpR13S (b : Nat) (g gs : Nat) : StableD b (SpR13L b g gs) := by
 unfold SpR13L
 exact (StableD.cons (fun _ _ _ h _ => h) (StableD.cons (fun _ _ _ h _ => h) (StableD.cons (fun _ _ _ h _ => h) (StableD.cons (fun _ _ _ h _ => h) (StableD.cons (fun _ _ _ h _ => h) (StableD.cons (fun _ _ _ h hk => h.keep hk) (StableD.cons (fun _ _ _ h _ => h) (StableD.cons (fun _ _ _ h _ => h) (StableD.cons (fun _ _ _ h hk => h.keep hk) (StableD.cons (fun _ _ _ h _ => h) (StableD.cons (fun _ _ _ h _ => h) (StableD.nil _))))))))))))
def SpR15L (b : Nat) (g gs : Nat) : List FactD := [⟨0, none, 58, fun v _ => v = .pointer (some ⟨gs, 2, none⟩)⟩, ⟨1, none, 59, fun v _ => NumV v⟩, ⟨2, none, 60, fun v _ => NumV v⟩, ⟨3, none, 61, fun v _ => v = .pointer (some ⟨gs, 2, none⟩)⟩, ⟨4, none, 62, fun v _ => NumV v⟩, ⟨5, none, 63, fun v _ => NumV v⟩, ⟨6, none, 64, fun v _ => v = .pointer (some ⟨g, 0, none⟩)⟩, ⟨7, none, 65, fun v _ => NumV v⟩, ⟨8, some 11, 66, fun v w => RowV b 4 v w⟩, ⟨9, none, 67, fun v _ => v = .pointer (some ⟨g, 0, none⟩)⟩, ⟨10, none, 68, fun v _ => NumB 4 v⟩, ⟨11, some 12, 69, fun v w => CellV b v w⟩, ⟨12, none, 70, fun v _ => NumV v⟩, ⟨13, none, 71, fun v _ => v = .pointer (some ⟨gs, 2, none⟩)⟩]
theorem SpR15S (b : Nat) (g gs : Nat) : StableD b (SpR15L b g gs) := by
 unfold SpR15L
 exact (StableD.cons (fun _ _ _ h _ => h) (StableD.cons (fun _ _ _ h _ => h) (StableD.cons (fun _ _ _ h _ => h) (StableD.cons (fun _ _ _ h _ => h) (StableD.cons (fun _ _ _ h _ => h) (StableD.cons (fun _ _ _ h _ => h) (StableD.cons (fun _ _ _ h _ => h) (StableD.cons (fun _ _ _ h _ => h) (StableD.cons (fun _ _ _ h hk => h.keep hk) (StableD.cons (fun _ _ _ h _ => h) (StableD.cons (fun _ _ _ h _ => h) (StableD.cons (fun _ _ _ h hk => h.keep hk) (StableD.cons (fun _ _ _ h _ => h) (StableD.cons (fun _ _ _ h _ => h) (StableD.nil _)))))))))))))))
def SpR17L (b : Nat) (g gs : Nat) : List FactD := [⟨0, none, 74, fun v _ => v = .pointer (some ⟨gs, 4, none⟩)⟩, ⟨1, none, 75, fun v _ => NumV v⟩, ⟨2, none, 76, fun v _ => NumV v⟩, ⟨3, some 6, 77, fun v w => RowV b 4 v w⟩, ⟨4, none, 78, fun v _ => v = .pointer (some ⟨g, 0, none⟩)⟩, ⟨5, none, 79, fun v _ => NumB 4 v⟩, ⟨6, some 7, 80, fun v w => CellV b v w⟩, ⟨7, none, 81, fun v _ => NumV v⟩, ⟨8, none, 82, fun v _ => v = .pointer (some ⟨gs, 4, none⟩)⟩]
theorem SpR17S (b : Nat) (g gs : Nat) : StableD b (SpR17L b g gs) := by
 unfold SpR17L
 exact (StableD.cons (fun _ _ _ h _ => h) (StableD.cons (fun _ _ _ h _ => h) (StableD.cons (fun _ _ _ h _ => h) (StableD.cons (fun _ _ _ h hk => h.keep hk) (StableD.cons (fun _ _ _ h _ => h) (StableD.cons (fun _ _ _ h _ => h) (StableD.cons (fun _ _ _ h hk => h.keep hk) (StableD.cons (fun _ _ _ h _ => h) (StableD.cons (fun _ _ _ h _ => h) (StableD.nil _))))))))))
theorem size_Scan : (Try.prog.info? 38).map (fun i => i.size) = some (k38).sz := by kernel_rfl
def lenV : Value → Nat
 | .slice _ n _ => n
 | _ => 0
theorem SpN.keep {w0 w W W' : World} {g : Nat} {c : List Int} {m m' gs : Nat} {A : Option Addr} {n cp k N : Nat} (h : SpN w0 w W g c m gs A n cp k N) (hg : g < w.heap.size) (hd : DrS w0 W W' g c m') : SpN w0 w W' g c m' gs A n cp k N := by
 obtain ⟨A0, c0, x, y1, y2, y3, y4, hb, h1, h2, hF⟩ := h.box
 obtain ⟨out, o1, o2, o3, o4⟩ := h.nn
 exact ⟨h.d.then_ hd, h.gs0, ⟨A0, c0, x, y1, y2, y3, y4, (hd.keep.2 gs (blk_lt hb) (by have := h.gs0; omega) (by simp)).trans hb, h1, h2, Kd.F_keep hF hd.keep (fun k hk => by omega)⟩, ⟨out, o1, o2, o3, Kd.N_keep o4 hd.keep (fun k hk => by omega)⟩, h.kl⟩
theorem SpN.pick {w0 w W : World} {g : Nat} {c : List Int} {m gs : Nat} {A : Option Addr} {n cp k N : Nat} (h : SpN w0 w W g c m gs A n cp k N) (hg : g < w.heap.size) (hm : m ≤ 1000000000000) (q : Int) (hq : 2 ≤ q) : Calls Try.prog 51 #[.pointer (some ⟨g, 0, none⟩), .int .i64 q] W (fun e W' => ∃ z : Int, e = .returned (.int .i64 z) ∧ 0 ≤ z ∧ z < q ∧ SpN w0 w W' g c (m + 2) gs A n cp k N) := by
 refine (h.d.cur.pick h.d.below hm q).mono ?_
 rintro e w' ⟨z, rfl, hz, hD⟩
 exact ⟨z, rfl, hz.1, by omega, h.keep hg hD⟩
/-- a copy of the box is behind the scans -/
theorem SpN.push {w0 w W W1 W2 : World} {g : Nat} {c : List Int} {m gs : Nat} {A A' : Option Addr} {n n' cp cp' k N : Nat} {out : List S38} (h : SpN w0 w W g c m gs A n cp k N) (hg : g < w.heap.size) (hb : Below W.heap.size W W1) (hN : Kd.N k38 38 W2 w.heap.size (fun k => w.heap.size ≤ k ∧ k ≠ gs) (.slice A' n' cp') out) (hr : W1.grownBy W2 (Value.slice A n cp).ownBlock) (hat : (Value.slice A' n' cp').ownBlock = (Value.slice A n cp).ownBlock ∨ ∃ b, (Value.slice A' n' cp').ownBlock = some b ∧ W1.heap.size ≤ b) (hn : n' = n + 1) (hl : ShortS 6 out) (hN2 : n + 1 ≤ N) : SpN w0 w W2 g c m gs A' n' cp' k N := by
 obtain ⟨A0, c0, x, y1, y2, y3, y4, hbx, h1, h2, hF⟩ := h.box
 obtain ⟨out', o1, o2, o3, o4⟩ := h.nn
 have hb1 := (hb.block gs (blk_lt hbx)).trans hbx
 have hne : some gs ≠ (Value.slice A n cp).ownBlock := Kd.N_away o4 (fun k hk => hk.2)
 exact ⟨(h.d.below_ hb).grown hg hr (fun k hk => Kd.N_base o4 k hk), h.gs0, ⟨A0, c0, x, y1, y2, y3, y4, blk_grown hb1 hr hne, h1, h2, Kd.F_after (Kd.F_below hF hb) hr hat⟩, ⟨out, (Kd.N_reads' hN).1.symm, by omega, hl, hN⟩, by have := h.kl; omega⟩
def SpoiltP (w0 w : World) (g : Nat) (c : List Int) (m n : Nat) (e : Ending) (w' : World) : Prop :=
 ∃ (v : Value) (r : List S38), e = .returned v ∧ Kd.N k38 38 w' w.heap.size (fun k => w.heap.size ≤ k) v r ∧ r.length ≤ n + 42 ∧ ShortS 6 r ∧ DrS w0 w w' g c (m + 400)
theorem copy_told (l : List Int) (a1 a2 a3 a4 : Int) (h : l.length ≤ 6) : spec_l12CopyScan.f l a1 a2 a3 a4 = some (l, a1, a2, a3, a4) := by
 unfold spec_l12CopyScan.f
 rw [zS, if_pos (by rw [List.length_nil]; omega)]
 rfl
set_option maxRecDepth 100000 in
set_option maxHeartbeats 4000000 in
theorem spoil_calls (g : Nat) (c : List Int) (m : Nat) (A1 : Option Addr) (c1 : Nat) (l : List S38) (w0 w : World) (hC : CurW w0 w g c m) (hB : Below w0.heap.size w0 w) (hm : m ≤ 100000000000) (hr : ∀ W_, KeepBut w W_ g none → Kd.C k38 W_ A1 l.length l) (hc1 : l.length ≤ c1) (hl : l.length ≤ 100000) (hs : ShortS 5 l) :
  Calls Try.prog 50 #[.pointer (some ⟨g, 0, none⟩), .slice A1 l.length c1] w (SpoiltP w0 w g c m l.length) := by
 have HD := zA (show DrS w0 w w g c m from ⟨hC, hB, KeepBut.refl w g none⟩)
 have hgw := hC.lt
 have HR := zA hr
 have HSH := zA hs
 clear hC hB hr hs
 go_enter Try.func50, Try.ntmps50
 go_upto_region 2 with (fail)
 have HS := zA (show SpS w0 w (w.alloc (Obj.cells #[] 38)) g c m (.slice (some ⟨w.heap.size, 0, none⟩) 0 0) [] from ⟨HD.out.alloc _, S_empty (Nat.le_refl _) (Nat.le_refl _) (blk_new _ _), fun s hs => by cases hs⟩)
 clear HD
 generalize w.alloc (Obj.cells #[] 38) = W1 at HS ⊢
 generalize (Value.slice (some ⟨w.heap.size, 0, none⟩) 0 0) = V1 at HS ⊢
 go_wp2
 go_loopw [5, 6] (fun v5 v6 w' => ∃ (i : Nat) (out : List S38), v6 = .int .i64 i ∧ out.length = i ∧ i ≤ l.length ∧ Aside0 (SpS w0 w w' g c m v5 out)) (fun v5 v6 w' => l.length - (intOf v6).toNat)
 case atStart => exact ⟨0, [], rfl, rfl, Nat.zero_le _, HS⟩
 case round =>
  clear HS
  obtain ⟨i, out, rfl, rfl, hi, HS⟩ := hrel
  obtain ⟨A2, cp, rfl⟩ := Kd.S_slice HS.out.s
  by_cases hlt : out.length < l.length
  ·obtain ⟨ad, Ao, co, rfl, hx0, hx1, hx2, hx3, hx4, hle, hA⟩ := at_T38 (HR.out wr HS.out.d.keep) (out.length : Int) (by omega) (by omega)
   simp only [Int.toNat_natCast] at hx0 hx1 hx2 hx3 hx4
   have HA := zA hA
   have HL0 := zA hle
   have HL5 := zA (HSH.out.rd (out.length : Int))
   have HL6 := HL5
   clear hA hle
   go_wp2_with (first | (go_at_call 106; go_loud (refine (spec_l12CopyScan.calls _ _ _ _ _ _ _ _ _ _ _ _ _ HA.out HL0.out (copy_told _ _ _ _ _ (Nat.le_succ_of_le HL5.out))).mono ?_; rintro e w3 ⟨v0, rfl, hr, hb⟩; obtain ⟨A0, c0, rfl⟩ := Kd.R_slice hr; have HR3 := zA hr; have HB3 := zA hb; clear hr hb hx0 hx1 hx2 hx3 hx4)) | ((with_reducible refine gate_builtin (b := .append) (xs := #[.tmp 16, .tmp 22]) rfl ?_); at_builtin; go_loud (refine Kd.S_append k38 (w0 := w3) w.heap.size rfl (.tmp 16) (.tmp 22) 27 38 (.agg #[.slice none 0 0, .int .i64 0, .int .i64 0, .int .i64 0, .int .i64 0]) 56 rfl Try.underlying27 info38 rfl (by decide) (by omega) (.slice A2 out.length cp) out ⟨_, _, _, _, _⟩ _ (fun k => w.heap.size ≤ k) (fun k => wr.heap.size ≤ k) rfl rfl (k38_mkM _ _ _ ⟨_, _, _, _, _⟩ (zP (Kd.R_lower (Kd.R_bound HR3.out) HS.out.d.keep.1) (fun _ hk => hk.2.1))) (fun k hk => ⟨Nat.le_trans HS.out.d.keep.1 hk, fun he => by have := Kd.S_lt HS.out.s k he.symm; omega⟩) (fun k hk => Nat.le_trans (Nat.le_trans HS.out.d.keep.1 HB3.out.size) hk) (yH (Kd.S_old HS.out.s HB3.out) (fun k hk => ⟨hk.1, by omega⟩)) (Below.refl _ _) (Nat.le_trans HS.out.d.keep.1 HB3.out.size) (by omega) ?_; intro v5 w4 ho hb hg hat; obtain ⟨A5, c5, e5⟩ := Kd.S_slice ho; subst e5; rw [zX, List.length_singleton] at ho; have HSN := zA (HS.out.push hgw HB3.out ho hg (HS.out.b.push HL6.out)); clear ho hb hg hat)))
   go_roundw
   case rel => exact ⟨out.length + 1, _, by go_num, by simp, by omega, HSN⟩
   case measure => simp [intOf]; omega
  ·have hle : out.length = l.length := by omega
   have HLE := zA hle
   have hll : out.length ≤ 100000 := by omega
   clear hi hle
   by_cases h0 : out.length = 0
   ·have he : out = [] := List.eq_nil_of_length_eq_zero h0
    subst he
    clear h0
    have hlt2 : ¬ 0 < l.length := hlt
    go_wp2_with (first | ((with_reducible refine gate_builtin (b := .append) (xs := #[.tmp 27, .tmp 29]) rfl ?_); at_builtin; go_loud (refine Kd.S_append k38 (w0 := wr) w.heap.size rfl (.tmp 27) (.tmp 29) 27 38 (.agg #[.slice none 0 0, .int .i64 0, .int .i64 0, .int .i64 0, .int .i64 0]) 56 rfl Try.underlying27 info38 rfl (by decide) (by omega) (.slice A2 ([] : List S38).length cp) [] ⟨[], 0, 0, 0, 0⟩ _ (fun k => w.heap.size ≤ k) (fun _ => False) rfl rfl (k38_mkM _ _ _ ⟨[], 0, 0, 0, 0⟩ (Kd.R_nil _ _ _ _ _)) (fun _ hk => hk.elim) (fun k hk => Nat.le_trans HS.out.d.keep.1 hk) (yH HS.out.s (fun k hk => ⟨hk, id⟩)) (Below.refl _ _) HS.out.d.keep.1 (by simp) ?_; intro v30 w4 ho hb hg hat; have HSN := zA (HS.out.push hgw (Below.refl _ _) ho hg (ShortS.push (fun s hs => (by cases hs)) (Nat.zero_le _))); clear ho hb hg hat)))
    go_ret
    exact ⟨_, _, rfl, Kd.S_N HSN.out.s, by simp, HSN.out.b.up (by decide), HSN.out.d.up (by omega)⟩
   ·have hpos : 0 < out.length := by omega
    have b0 : ((out.length : Int) == 0) = false := by rw [beq_eq_false_iff_ne]; omega
    obtain ⟨go, co, eo, gb, gl, cl, HG⟩ := Kd.S_form HS.out.s hpos
    injection eo with ea en ec
    subst ea; subst ec
    clear en HG gb gl cl h0
    go_upto_region 9 with (first | (go_at_call 51; go_loud (refine (HS.out.d.cur.pick HS.out.d.below (by omega) _).mono ?_; rintro e w3 ⟨z, rfl, hz, hD⟩; replace HS := zA (HS.out.keep hgw hD); clear hD; obtain ⟨k, rfl⟩ : ∃ k : Nat, z = (k : Int) := ⟨z.toNat, (by omega)⟩; have hk : k < out.length := (by omega); clear hz)))
    obtain ⟨A0, c0, x, e1, e2, e3, e4, hx5, ⟨i0, i1, i2, i3, i4⟩, HH⟩ := HS.out.lend k hk
    replace HH := zA HH
    go_upto_region 10 with (fail)
    refine gen_world (P := fun W => Aside0 (SpH w0 w W g c (m + 2) w3.heap.size go out.length cp k out A0 c0 x)) HH (fun W4 HX => ?_)
    clear HH HS i0 i1 i2 i3 i4
    generalize w3.heap.size = gs at HX ⊢
    obtain ⟨y1, y2, y3, y4, hbx⟩ := HX.out.box
    have q0 := zK hbx 0
    have j0 := zJ hbx 0
    have q1 := zK hbx 1
    have j1 := zJ hbx 1
    have q2 := zK hbx 2
    have j2 := zJ hbx 2
    have q3 := zK hbx 3
    have j3 := zJ hbx 3
    have q4 := zK hbx 4
    have j4 := zJ hbx 4
    simp at q0 q1 q2 q3 q4
    clear hbx
    go_upto_block 2 with (first | (go_at_call 51; go_loud (refine (HX.out.pick hgw (by omega) _ (by decide)).mono ?_; rintro e w5 ⟨z, rfl, hz0, hz1, hX, hk⟩; clear q0 q1 q2 q3 q4 j0 j1 j2 j3 j4 hk; replace HX := zA hX; clear hX; obtain ⟨y1, y2, y3, y4, hbx⟩ := HX.out.box; have q0 := zK hbx 0; have j0 := zJ hbx 0; have q1 := zK hbx 1; have j1 := zJ hbx 1; have q2 := zK hbx 2; have j2 := zJ hbx 2; have q3 := zK hbx 3; have j3 := zJ hbx 3; have q4 := zK hbx 4; have j4 := zJ hbx 4; simp at q0 q1 q2 q3 q4; have nn := blk_lt hbx; clear hbx)))
    go_cut [5] from 41 (fun v5 wx => ∃ (go n cp : Nat), v5 = .slice (some ⟨go, 0, none⟩) n cp ∧ Aside0 (SpE w0 w wx g c (m + 380) gs go n cp k (l.length + 42)))
    case first =>
     go_wp2_with (first | (go_at_call 51; go_loud (refine (HX.out.pick hgw (by omega) _ (by decide)).mono ?_; rintro e w5 ⟨z, rfl, hz0, hz1, hX, hk⟩; clear q0 q1 q2 q3 q4 j0 j1 j2 j3 j4 hk; replace HX := zA hX; clear hX; obtain ⟨y1, y2, y3, y4, hbx⟩ := HX.out.box; have q0 := zK hbx 0; have j0 := zJ hbx 0; have q1 := zK hbx 1; have j1 := zJ hbx 1; have q2 := zK hbx 2; have j2 := zJ hbx 2; have q3 := zK hbx 3; have j3 := zJ hbx 3; have q4 := zK hbx 4; have j4 := zJ hbx 4; simp at q0 q1 q2 q3 q4; have nn := blk_lt hbx; clear hbx)))
     ·refine gen_act (K := fun a => Code.wp _ _ _ a _) (fun a0 ha0 => ?_)
      have hsz0 : a0.tmps.size = 126 := by rw [ha0]; rfl
      have h0_0 : a0.eval (.tmp 0) = .pointer (some ⟨g, 0, none⟩) := by rw [ha0]; rfl
      have h0_8 : a0.eval (.tmp 8) = .pointer (some ⟨gs, 0, none⟩) := by rw [ha0]; rfl
      refine wp_region_inv (RegF w.heap.size 126 11 (m + 2 + 2) [45, 46, 47, 48, 49, 50, 51, 52, 53, 54, 55] [4, 7] (SpR13L w.heap.size g gs) (fun M W => SpH w0 w W g c M gs go out.length cp k out A0 c0 x) a0) (by kernel_rfl) (by kernel_rfl) ?start ?steps ?done
      case start => exact fun L hL => RegF.start (n := 12) hsz0 (by decide) hL rfl rfl HX.out.drew
      case steps =>
       refine ⟨?_, ⟨?_, ⟨?_, ⟨?_, ⟨?_, ⟨?_, ⟨?_, ⟨?_, ⟨?_, ⟨?_, ⟨?_, ⟨?_, trivial⟩⟩⟩⟩⟩⟩⟩⟩⟩⟩⟩⟩
       ·refine ⟨_, rfl, fun Q K L a W hL hdep hF hK => ?_⟩
        replace hdep : ∀ d ∈ ([10, 9, 7, 0, 1, 2, 3, 4, 5, 6, 7, 8, 9] : List Nat), L d = true := hdep
        have hO := hL
        have p := hF.fact hO 10 rfl (hdep 10 (by decide)) deadNo
        have q := hF.fact hO 9 rfl (hdep 9 (by decide)) deadNo
        obtain ⟨b1, b2, b3, b4, hbx⟩ := hF.d.box
        have hc := zK hbx 1
        have hfz := zJ hbx 1
        simp at hc
        obtain ⟨z, hz⟩ := q
        exact skip_step rfl (run_storeInt p hz hc hfz) (by change K (a.put none _) _; exact hK _ _ (hF.last hL (fun j hj => hdep j (by revert j; decide)) rfl (hF.d.put hgw 1 (by decide) (by decide) z) _))
       ·refine ⟨_, rfl, fun Q K L a W hL hdep hF hK => ?_⟩
        replace hdep : ∀ d ∈ ([0, 1, 2, 3, 4, 5, 6, 7, 8, 9] : List Nat), L d = true := hdep
        exact event_step rfl (run_fieldS (show 1 < 5 by decide) (hF.slot (t := 8) rfl h0_8)) (by change K (a.put (some 55) _) _; exact hK _ _ (hF.put (SpR13S w.heap.size g gs) hL rfl (KeptOn.refl _ W) hF.d rfl rfl rfl))
       ·refine ⟨_, rfl, fun Q K L a W hL hdep hF hK => ?_⟩
        replace hdep : ∀ d ∈ ([8] : List Nat), L d = true := hdep
        have hO := hF.open_ (i := 9) (by decide) hL
        have p := hF.fact hO 8 rfl (hdep 8 (by decide)) (deadAt hL)
        obtain ⟨k, j, x, hp, hb, hc⟩ := p
        exact event_step rfl (run_loadInt hp hc) (by change K (a.put (some 54) _) _; exact hK _ _ (hF.put (SpR13S w.heap.size g gs) hL rfl (KeptOn.refl _ W) hF.d rfl rfl ⟨x, rfl⟩))
       ·refine ⟨_, rfl, fun Q K L a W hL hdep hF hK => ?_⟩
        replace hdep : ∀ d ∈ ([5, 7] : List Nat), L d = true := hdep
        have hO := hF.open_ (i := 8) (by decide) hL
        have p := hF.fact hO 7 rfl (hdep 7 (by decide)) deadNo
        obtain ⟨x, hx, x0, x1⟩ := p
        have q := hF.fact hO 5 rfl (hdep 5 (by decide)) (deadAt hL)
        obtain ⟨k, hs, hc⟩ := RowV.at_ q x x0 x1
        exact event_step rfl (run_index hs hx x0 x1) (by change K (a.put (some 53) _) _; exact hK _ _ (hF.put (SpR13S w.heap.size g gs) hL rfl (KeptOn.refl _ W) hF.d rfl rfl hc))
       ·refine ⟨_, rfl, fun Q K L a W hL hdep hF hK => ?_⟩
        replace hdep : ∀ d ∈ ([6, 4] : List Nat), L d = true := hdep
        have hO := hF.open_ (i := 7) (by decide) hL
        have p := hF.fact hO 6 rfl (hdep 6 (by decide)) deadNo
        exact stp_pickH p rfl hF.d (hF.bound (by simp; omega)) hgw (fun z W' hz1 hz2 hD hk => (by change K (a.put (some 52) _) _; exact hK _ _ (hF.draw (SpR13S w.heap.size g gs) hL rfl hk hD rfl rfl ⟨z, rfl, hz1, by omega⟩)))
       ·refine ⟨_, rfl, fun Q K L a W hL hdep hF hK => ?_⟩
        replace hdep : ∀ d ∈ ([] : List Nat), L d = true := hdep
        exact event_step rfl (run_move (hF.slot (t := 0) rfl h0_0)) (by change K (a.put (some 51) _) _; exact hK _ _ (hF.put (SpR13S w.heap.size g gs) hL rfl (KeptOn.refl _ W) hF.d rfl rfl rfl))
       ·refine ⟨_, rfl, fun Q K L a W hL hdep hF hK => ?_⟩
        replace hdep : ∀ d ∈ ([2, 4] : List Nat), L d = true := hdep
        have hO := hF.open_ (i := 5) (by decide) hL
        have p0 := hF.fact hO 2 rfl (hdep 2 (by decide)) deadNo
        obtain ⟨r0, hr0⟩ := p0
        have p2 := hF.fact hO 4 rfl (hdep 4 (by decide)) deadNo
        obtain ⟨r2, hr2⟩ := p2
        exact event_step rfl (run_row3 hr0 rfl hr2) (by change K (a.put (some 50) _) _; exact hK _ _ (hF.put (SpR13S w.heap.size g gs) hL rfl (KeptOn.alloc _ W _) (hF.d.alloc _) rfl rfl (RowV.new _ W [r0, (-1), r2] 3 rfl hF.d.d.keep.1)))
       ·refine ⟨_, rfl, fun Q K L a W hL hdep hF hK => ?_⟩
        replace hdep : ∀ d ∈ ([3] : List Nat), L d = true := hdep
        have hO := hF.open_ (i := 4) (by decide) hL
        have p := hF.fact hO 3 rfl (hdep 3 (by decide)) deadNo
        exact stp_oddH p hF.d (hF.bound (by simp; omega)) hgw (fun z W' hD hk => (by change K (a.put (some 49) _) _; exact hK _ _ (hF.draw (SpR13S w.heap.size g gs) hL rfl hk hD rfl rfl ⟨z, rfl⟩)))
       ·refine ⟨_, rfl, fun Q K L a W hL hdep hF hK => ?_⟩
        replace hdep : ∀ d ∈ ([] : List Nat), L d = true := hdep
        exact event_step rfl (run_move (hF.slot (t := 0) rfl h0_0)) (by change K (a.put (some 48) _) _; exact hK _ _ (hF.put (SpR13S w.heap.size g gs) hL rfl (KeptOn.refl _ W) hF.d rfl rfl rfl))
       ·refine ⟨_, rfl, fun Q K L a W hL hdep hF hK => ?_⟩
        replace hdep : ∀ d ∈ ([1] : List Nat), L d = true := hdep
        have hO := hF.open_ (i := 2) (by decide) hL
        have p := hF.fact hO 1 rfl (hdep 1 (by decide)) deadNo
        obtain ⟨x, hx⟩ := p
        exact event_step rfl (run_add hx rfl) (by change K (a.put (some 47) _) _; exact hK _ _ (hF.put (SpR13S w.heap.size g gs) hL rfl (KeptOn.refl _ W) hF.d rfl rfl ⟨_, rfl⟩))
       ·refine ⟨_, rfl, fun Q K L a W hL hdep hF hK => ?_⟩
        replace hdep : ∀ d ∈ ([0] : List Nat), L d = true := hdep
        have hO := hF.open_ (i := 1) (by decide) hL
        have p := hF.fact hO 0 rfl (hdep 0 (by decide)) deadNo
        obtain ⟨b1, b2, b3, b4, hbx⟩ := hF.d.box
        have hc := zK hbx 1
        simp at hc
        exact event_step rfl (run_loadInt p hc) (by change K (a.put (some 46) _) _; exact hK _ _ (hF.put (SpR13S w.heap.size g gs) hL rfl (KeptOn.refl _ W) hF.d rfl rfl ⟨_, rfl⟩))
       ·refine ⟨_, rfl, fun Q K L a W hL hdep hF hK => ?_⟩
        replace hdep : ∀ d ∈ ([] : List Nat), L d = true := hdep
        exact event_step rfl (run_fieldS (show 1 < 5 by decide) (hF.slot (t := 8) rfl h0_8)) (by change K (a.put (some 45) _) _; exact hK _ _ (hF.put (SpR13S w.heap.size g gs) hL rfl (KeptOn.refl _ W) hF.d rfl rfl rfl))
      case done =>
      intro L a w' hL hF
      have HY := hF.done hL
      simp only [List.length_cons, List.length_nil] at HY
      replace HY := zA HY
      rw [hF.s.eq]
      clear hF hL
      generalize a.eval = ev
      subst ha0
      simp only [setSlots, zV, zW, List.foldl_cons, List.foldl_nil, List.setIfInBounds_toArray, List.set_cons_succ, List.set_cons_zero]
      go_wp2_with (fail)
      go_meet
      case rel => exact ⟨_, _, _, rfl, ⟨(HY.out.toG.toE hgw (by omega) (by have := HLE.out; omega))⟩⟩
     ·refine gen_act (K := fun a => Code.wp _ _ _ a _) (fun a0 ha0 => ?_)
      have hsz0 : a0.tmps.size = 126 := by rw [ha0]; rfl
      have h0_0 : a0.eval (.tmp 0) = .pointer (some ⟨g, 0, none⟩) := by rw [ha0]; rfl
      have h0_8 : a0.eval (.tmp 8) = .pointer (some ⟨gs, 0, none⟩) := by rw [ha0]; rfl
      refine wp_region_inv (RegF w.heap.size 126 14 (m + 2 + 2) [58, 59, 60, 61, 62, 63, 64, 65, 66, 67, 68, 69, 70, 71] [7, 10] (SpR15L w.heap.size g gs) (fun M W => SpH w0 w W g c M gs go out.length cp k out A0 c0 x) a0) (by kernel_rfl) (by kernel_rfl) ?start ?steps ?done
      case start => exact fun L hL => RegF.start (n := 15) hsz0 (by decide) hL rfl rfl HX.out.drew
      case steps =>
       refine ⟨?_, ⟨?_, ⟨?_, ⟨?_, ⟨?_, ⟨?_, ⟨?_, ⟨?_, ⟨?_, ⟨?_, ⟨?_, ⟨?_, ⟨?_, ⟨?_, ⟨?_, trivial⟩⟩⟩⟩⟩⟩⟩⟩⟩⟩⟩⟩⟩⟩⟩
       ·refine ⟨_, rfl, fun Q K L a W hL hdep hF hK => ?_⟩
        replace hdep : ∀ d ∈ ([13, 12, 10, 0, 1, 2, 3, 4, 5, 6, 7, 8, 9, 10, 11, 12] : List Nat), L d = true := hdep
        have hO := hL
        have p := hF.fact hO 13 rfl (hdep 13 (by decide)) deadNo
        have q := hF.fact hO 12 rfl (hdep 12 (by decide)) deadNo
        obtain ⟨b1, b2, b3, b4, hbx⟩ := hF.d.box
        have hc := zK hbx 2
        have hfz := zJ hbx 2
        simp at hc
        obtain ⟨z, hz⟩ := q
        exact skip_step rfl (run_storeInt p hz hc hfz) (by change K (a.put none _) _; exact hK _ _ (hF.last hL (fun j hj => hdep j (by revert j; decide)) rfl (hF.d.put hgw 2 (by decide) (by decide) z) _))
       ·refine ⟨_, rfl, fun Q K L a W hL hdep hF hK => ?_⟩
        replace hdep : ∀ d ∈ ([0, 1, 2, 3, 4, 5, 6, 7, 8, 9, 10, 11, 12] : List Nat), L d = true := hdep
        exact event_step rfl (run_fieldS (show 2 < 5 by decide) (hF.slot (t := 8) rfl h0_8)) (by change K (a.put (some 71) _) _; exact hK _ _ (hF.put (SpR15S w.heap.size g gs) hL rfl (KeptOn.refl _ W) hF.d rfl rfl rfl))
       ·refine ⟨_, rfl, fun Q K L a W hL hdep hF hK => ?_⟩
        replace hdep : ∀ d ∈ ([11] : List Nat), L d = true := hdep
        have hO := hF.open_ (i := 12) (by decide) hL
        have p := hF.fact hO 11 rfl (hdep 11 (by decide)) (deadAt hL)
        obtain ⟨k, j, x, hp, hb, hc⟩ := p
        exact event_step rfl (run_loadInt hp hc) (by change K (a.put (some 70) _) _; exact hK _ _ (hF.put (SpR15S w.heap.size g gs) hL rfl (KeptOn.refl _ W) hF.d rfl rfl ⟨x, rfl⟩))
       ·refine ⟨_, rfl, fun Q K L a W hL hdep hF hK => ?_⟩
        replace hdep : ∀ d ∈ ([8, 10] : List Nat), L d = true := hdep
        have hO := hF.open_ (i := 11) (by decide) hL
        have p := hF.fact hO 10 rfl (hdep 10 (by decide)) deadNo
        obtain ⟨x, hx, x0, x1⟩ := p
        have q := hF.fact hO 8 rfl (hdep 8 (by decide)) (deadAt hL)
        obtain ⟨k, hs, hc⟩ := RowV.at_ q x x0 x1
        exact event_step rfl (run_index hs hx x0 x1) (by change K (a.put (some 69) _) _; exact hK _ _ (hF.put (SpR15S w.heap.size g gs) hL rfl (KeptOn.refl _ W) hF.d rfl rfl hc))
       ·refine ⟨_, rfl, fun Q K L a W hL hdep hF hK => ?_⟩
        replace hdep : ∀ d ∈ ([9, 7] : List Nat), L d = true := hdep
        have hO := hF.open_ (i := 10) (by decide) hL
        have p := hF.fact hO 9 rfl (hdep 9 (by decide)) deadNo
        exact stp_pickH p rfl hF.d (hF.bound (by simp; omega)) hgw (fun z W' hz1 hz2 hD hk => (by change K (a.put (some 68) _) _; exact hK _ _ (hF.draw (SpR15S w.heap.size g gs) hL rfl hk hD rfl rfl ⟨z, rfl, hz1, by omega⟩)))
       ·refine ⟨_, rfl, fun Q K L a W hL hdep hF hK => ?_⟩
        replace hdep : ∀ d ∈ ([] : List Nat), L d = true := hdep
        exact event_step rfl (run_move (hF.slot (t := 0) rfl h0_0)) (by change K (a.put (some 67) _) _; exact hK _ _ (hF.put (SpR15S w.heap.size g gs) hL rfl (KeptOn.refl _ W) hF.d rfl rfl rfl))
       ·refine ⟨_, rfl, fun Q K L a W hL hdep hF hK => ?_⟩
        replace hdep : ∀ d ∈ ([2, 5, 7] : List Nat), L d = true := hdep
        have hO := hF.open_ (i := 8) (by decide) hL
        have p0 := hF.fact hO 2 rfl (hdep 2 (by decide)) deadNo
        obtain ⟨r0, hr0⟩ := p0
        have p1 := hF.fact hO 5 rfl (hdep 5 (by decide)) deadNo
        obtain ⟨r1, hr1⟩ := p1
        have p3 := hF.fact hO 7 rfl (hdep 7 (by decide)) deadNo
        obtain ⟨r3, hr3⟩ := p3
        exact event_step rfl (run_row4 hr0 hr1 rfl hr3) (by change K (a.put (some 66) _) _; exact hK _ _ (hF.put (SpR15S w.heap.size g gs) hL rfl (KeptOn.alloc _ W _) (hF.d.alloc _) rfl rfl (RowV.new _ W [r0, r1, 64, r3] 4 rfl hF.d.d.keep.1)))
       ·refine ⟨_, rfl, fun Q K L a W hL hdep hF hK => ?_⟩
        replace hdep : ∀ d ∈ ([6] : List Nat), L d = true := hdep
        have hO := hF.open_ (i := 7) (by decide) hL
        have p := hF.fact hO 6 rfl (hdep 6 (by decide)) deadNo
        exact stp_oddH p hF.d (hF.bound (by simp; omega)) hgw (fun z W' hD hk => (by change K (a.put (some 65) _) _; exact hK _ _ (hF.draw (SpR15S w.heap.size g gs) hL rfl hk hD rfl rfl ⟨z, rfl⟩)))
       ·refine ⟨_, rfl, fun Q K L a W hL hdep hF hK => ?_⟩
        replace hdep : ∀ d ∈ ([] : List Nat), L d = true := hdep
        exact event_step rfl (run_move (hF.slot (t := 0) rfl h0_0)) (by change K (a.put (some 64) _) _; exact hK _ _ (hF.put (SpR15S w.heap.size g gs) hL rfl (KeptOn.refl _ W) hF.d rfl rfl rfl))
       ·refine ⟨_, rfl, fun Q K L a W hL hdep hF hK => ?_⟩
        replace hdep : ∀ d ∈ ([4] : List Nat), L d = true := hdep
        have hO := hF.open_ (i := 5) (by decide) hL
        have p := hF.fact hO 4 rfl (hdep 4 (by decide)) deadNo
        obtain ⟨x, hx⟩ := p
        exact event_step rfl (run_sub hx rfl) (by change K (a.put (some 63) _) _; exact hK _ _ (hF.put (SpR15S w.heap.size g gs) hL rfl (KeptOn.refl _ W) hF.d rfl rfl ⟨_, rfl⟩))
       ·refine ⟨_, rfl, fun Q K L a W hL hdep hF hK => ?_⟩
        replace hdep : ∀ d ∈ ([3] : List Nat), L d = true := hdep
        have hO := hF.open_ (i := 4) (by decide) hL
        have p := hF.fact hO 3 rfl (hdep 3 (by decide)) deadNo
        obtain ⟨b1, b2, b3, b4, hbx⟩ := hF.d.box
        have hc := zK hbx 2
        simp at hc
        exact event_step rfl (run_loadInt p hc) (by change K (a.put (some 62) _) _; exact hK _ _ (hF.put (SpR15S w.heap.size g gs) hL rfl (KeptOn.refl _ W) hF.d rfl rfl ⟨_, rfl⟩))
       ·refine ⟨_, rfl, fun Q K L a W hL hdep hF hK => ?_⟩
        replace hdep : ∀ d ∈ ([] : List Nat), L d = true := hdep
        exact event_step rfl (run_fieldS (show 2 < 5 by decide) (hF.slot (t := 8) rfl h0_8)) (by change K (a.put (some 61) _) _; exact hK _ _ (hF.put (SpR15S w.heap.size g gs) hL rfl (KeptOn.refl _ W) hF.d rfl rfl rfl))
       ·refine ⟨_, rfl, fun Q K L a W hL hdep hF hK => ?_⟩
        replace hdep : ∀ d ∈ ([1] : List Nat), L d = true := hdep
        have hO := hF.open_ (i := 2) (by decide) hL
        have p := hF.fact hO 1 rfl (hdep 1 (by decide)) deadNo
        obtain ⟨x, hx⟩ := p
        exact event_step rfl (run_add hx rfl) (by change K (a.put (some 60) _) _; exact hK _ _ (hF.put (SpR15S w.heap.size g gs) hL rfl (KeptOn.refl _ W) hF.d rfl rfl ⟨_, rfl⟩))
       ·refine ⟨_, rfl, fun Q K L a W hL hdep hF hK => ?_⟩
        replace hdep : ∀ d ∈ ([0] : List Nat), L d = true := hdep
        have hO := hF.open_ (i := 1) (by decide) hL
        have p := hF.fact hO 0 rfl (hdep 0 (by decide)) deadNo
        obtain ⟨b1, b2, b3, b4, hbx⟩ := hF.d.box
        have hc := zK hbx 2
        simp at hc
        exact event_step rfl (run_loadInt p hc) (by change K (a.put (some 59) _) _; exact hK _ _ (hF.put (SpR15S w.heap.size g gs) hL rfl (KeptOn.refl _ W) hF.d rfl rfl ⟨_, rfl⟩))
       ·refine ⟨_, rfl, fun Q K L a W hL hdep hF hK => ?_⟩
        replace hdep : ∀ d ∈ ([] : List Nat), L d = true := hdep
        exact event_step rfl (run_fieldS (show 2 < 5 by decide) (hF.slot (t := 8) rfl h0_8)) (by change K (a.put (some 58) _) _; exact hK _ _ (hF.put (SpR15S w.heap.size g gs) hL rfl (KeptOn.refl _ W) hF.d rfl rfl rfl))
      case done =>
      intro L a w' hL hF
      have HY := hF.done hL
      simp only [List.length_cons, List.length_nil] at HY
      replace HY := zA HY
      rw [hF.s.eq]
      clear hF hL
      generalize a.eval = ev
      subst ha0
      simp only [setSlots, zV, zW, List.foldl_cons, List.foldl_nil, List.setIfInBounds_toArray, List.set_cons_succ, List.set_cons_zero]
      go_wp2_with (fail)
      go_meet
      case rel => exact ⟨_, _, _, rfl, ⟨(HY.out.toG.toE hgw (by omega) (by have := HLE.out; omega))⟩⟩
     ·refine gen_act (K := fun a => Code.wp _ _ _ a _) (fun a0 ha0 => ?_)
      have hsz0 : a0.tmps.size = 126 := by rw [ha0]; rfl
      have h0_0 : a0.eval (.tmp 0) = .pointer (some ⟨g, 0, none⟩) := by rw [ha0]; rfl
      have h0_8 : a0.eval (.tmp 8) = .pointer (some ⟨gs, 0, none⟩) := by rw [ha0]; rfl
      refine wp_region_inv (RegF w.heap.size 126 9 (m + 2 + 2) [74, 75, 76, 77, 78, 79, 80, 81, 82] [5] (SpR17L w.heap.size g gs) (fun M W => SpH w0 w W g c M gs go out.length cp k out A0 c0 x) a0) (by kernel_rfl) (by kernel_rfl) ?start ?steps ?done
      case start => exact fun L hL => RegF.start (n := 10) hsz0 (by decide) hL rfl rfl HX.out.drew
      case steps =>
       refine ⟨?_, ⟨?_, ⟨?_, ⟨?_, ⟨?_, ⟨?_, ⟨?_, ⟨?_, ⟨?_, ⟨?_, trivial⟩⟩⟩⟩⟩⟩⟩⟩⟩⟩
       ·refine ⟨_, rfl, fun Q K L a W hL hdep hF hK => ?_⟩
        replace hdep : ∀ d ∈ ([8, 7, 5, 0, 1, 2, 3, 4, 5, 6, 7] : List Nat), L d = true := hdep
        have hO := hL
        have p := hF.fact hO 8 rfl (hdep 8 (by decide)) deadNo
        have q := hF.fact hO 7 rfl (hdep 7 (by decide)) deadNo
        obtain ⟨b1, b2, b3, b4, hbx⟩ := hF.d.box
        have hc := zK hbx 4
        have hfz := zJ hbx 4
        simp at hc
        obtain ⟨z, hz⟩ := q
        exact skip_step rfl (run_storeInt p hz hc hfz) (by change K (a.put none _) _; exact hK _ _ (hF.last hL (fun j hj => hdep j (by revert j; decide)) rfl (hF.d.put hgw 4 (by decide) (by decide) z) _))
       ·refine ⟨_, rfl, fun Q K L a W hL hdep hF hK => ?_⟩
        replace hdep : ∀ d ∈ ([0, 1, 2, 3, 4, 5, 6, 7] : List Nat), L d = true := hdep
        exact event_step rfl (run_fieldS (show 4 < 5 by decide) (hF.slot (t := 8) rfl h0_8)) (by change K (a.put (some 82) _) _; exact hK _ _ (hF.put (SpR17S w.heap.size g gs) hL rfl (KeptOn.refl _ W) hF.d rfl rfl rfl))
       ·refine ⟨_, rfl, fun Q K L a W hL hdep hF hK => ?_⟩
        replace hdep : ∀ d ∈ ([6] : List Nat), L d = true := hdep
        have hO := hF.open_ (i := 7) (by decide) hL
        have p := hF.fact hO 6 rfl (hdep 6 (by decide)) (deadAt hL)
        obtain ⟨k, j, x, hp, hb, hc⟩ := p
        exact event_step rfl (run_loadInt hp hc) (by change K (a.put (some 81) _) _; exact hK _ _ (hF.put (SpR17S w.heap.size g gs) hL rfl (KeptOn.refl _ W) hF.d rfl rfl ⟨x, rfl⟩))
       ·refine ⟨_, rfl, fun Q K L a W hL hdep hF hK => ?_⟩
        replace hdep : ∀ d ∈ ([3, 5] : List Nat), L d = true := hdep
        have hO := hF.open_ (i := 6) (by decide) hL
        have p := hF.fact hO 5 rfl (hdep 5 (by decide)) deadNo
        obtain ⟨x, hx, x0, x1⟩ := p
        have q := hF.fact hO 3 rfl (hdep 3 (by decide)) (deadAt hL)
        obtain ⟨k, hs, hc⟩ := RowV.at_ q x x0 x1
        exact event_step rfl (run_index hs hx x0 x1) (by change K (a.put (some 80) _) _; exact hK _ _ (hF.put (SpR17S w.heap.size g gs) hL rfl (KeptOn.refl _ W) hF.d rfl rfl hc))
       ·refine ⟨_, rfl, fun Q K L a W hL hdep hF hK => ?_⟩
        replace hdep : ∀ d ∈ ([4] : List Nat), L d = true := hdep
        have hO := hF.open_ (i := 5) (by decide) hL
        have p := hF.fact hO 4 rfl (hdep 4 (by decide)) deadNo
        exact stp_pickH p rfl hF.d (hF.bound (by simp; omega)) hgw (fun z W' hz1 hz2 hD hk => (by change K (a.put (some 79) _) _; exact hK _ _ (hF.draw (SpR17S w.heap.size g gs) hL rfl hk hD rfl rfl ⟨z, rfl, hz1, by omega⟩)))
       ·refine ⟨_, rfl, fun Q K L a W hL hdep hF hK => ?_⟩
        replace hdep : ∀ d ∈ ([] : List Nat), L d = true := hdep
        exact event_step rfl (run_move (hF.slot (t := 0) rfl h0_0)) (by change K (a.put (some 78) _) _; exact hK _ _ (hF.put (SpR17S w.heap.size g gs) hL rfl (KeptOn.refl _ W) hF.d rfl rfl rfl))
       ·refine ⟨_, rfl, fun Q K L a W hL hdep hF hK => ?_⟩
        replace hdep : ∀ d ∈ ([2] : List Nat), L d = true := hdep
        have hO := hF.open_ (i := 3) (by decide) hL
        have p2 := hF.fact hO 2 rfl (hdep 2 (by decide)) deadNo
        obtain ⟨r2, hr2⟩ := p2
        exact event_step rfl (run_row4 rfl rfl hr2 rfl) (by change K (a.put (some 77) _) _; exact hK _ _ (hF.put (SpR17S w.heap.size g gs) hL rfl (KeptOn.alloc _ W _) (hF.d.alloc _) rfl rfl (RowV.new _ W [13, 14, r2, (-1)] 4 rfl hF.d.d.keep.1)))
       ·refine ⟨_, rfl, fun Q K L a W hL hdep hF hK => ?_⟩
        replace hdep : ∀ d ∈ ([1] : List Nat), L d = true := hdep
        have hO := hF.open_ (i := 2) (by decide) hL
        have p := hF.fact hO 1 rfl (hdep 1 (by decide)) deadNo
        obtain ⟨x, hx⟩ := p
        exact event_step rfl (run_add hx rfl) (by change K (a.put (some 76) _) _; exact hK _ _ (hF.put (SpR17S w.heap.size g gs) hL rfl (KeptOn.refl _ W) hF.d rfl rfl ⟨_, rfl⟩))
       ·refine ⟨_, rfl, fun Q K L a W hL hdep hF hK => ?_⟩
        replace hdep : ∀ d ∈ ([0] : List Nat), L d = true := hdep
        have hO := hF.open_ (i := 1) (by decide) hL
        have p := hF.fact hO 0 rfl (hdep 0 (by decide)) deadNo
        obtain ⟨b1, b2, b3, b4, hbx⟩ := hF.d.box
        have hc := zK hbx 4
        simp at hc
        exact event_step rfl (run_loadInt p hc) (by change K (a.put (some 75) _) _; exact hK _ _ (hF.put (SpR17S w.heap.size g gs) hL rfl (KeptOn.refl _ W) hF.d rfl rfl ⟨_, rfl⟩))
       ·refine ⟨_, rfl, fun Q K L a W hL hdep hF hK => ?_⟩
        replace hdep : ∀ d ∈ ([] : List Nat), L d = true := hdep
        exact event_step rfl (run_fieldS (show 4 < 5 by decide) (hF.slot (t := 8) rfl h0_8)) (by change K (a.put (some 74) _) _; exact hK _ _ (hF.put (SpR17S w.heap.size g gs) hL rfl (KeptOn.refl _ W) hF.d rfl rfl rfl))
      case done =>
      intro L a w' hL hF
      have HY := hF.done hL
      simp only [List.length_cons, List.length_nil] at HY
      replace HY := zA HY
      rw [hF.s.eq]
      clear hF hL
      generalize a.eval = ev
      subst ha0
      simp only [setSlots, zV, zW, List.foldl_cons, List.foldl_nil, List.setIfInBounds_toArray, List.set_cons_succ, List.set_cons_zero]
      go_wp2_with (fail)
      go_meet
      case rel => exact ⟨_, _, _, rfl, ⟨(HY.out.toG.toE hgw (by omega) (by have := HLE.out; omega))⟩⟩
     ·go_meet
      case rel => exact ⟨_, _, _, rfl, ⟨((HX.out.put hgw 3 (by decide) (by decide) _).toG.toE hgw (by omega) (by have := HLE.out; omega))⟩⟩
     ·go_region_law (first | (refine stp_pickH (w0 := w0) (w1 := w) rfl rfl HX.out.drew (by omega) hgw (fun z W5 hz1 hz2 hX hk => ?_); clear q0 q1 q2 q3 q4 j0 j1 j2 j3 j4 hk; replace HX := zA hX; clear hX; obtain ⟨y1, y2, y3, y4, hbx⟩ := HX.out.box; have q0 := zK hbx 0; simp at q0; have nn := blk_lt hbx; clear hbx; obtain ⟨oki, hfr, hRo, hrep⟩ := HX.out.repl hgw; have HRO := zA hRo; have HFR := zA hfr; have HREP := zA hrep; clear hfr hRo hrep) | (refine Kd.R_append_step (Kd.int .i64) (w0 := W5) w.heap.size rfl _ _ 36 3 (.int .i64 0) 8 rfl Try.underlying36 info3 rfl (by decide) (by omega) (.slice A0 x.length c0) x _ [.int .i64 _] oki (fun _ => False) rfl rfl rfl (fun _ hk => hk.elim) HFR.out HRO.out (Below.refl _ _) HX.out.d.keep.1 (by omega) (fun v1 w1 ho hb hg hat => ?_); obtain ⟨A7, c7, e7⟩ := Kd.R_slice ho; subst e7; obtain ⟨⟨s0, s1⟩, hG⟩ := HREP.out _ A7 c7 _ w1 (by rw [zX, List.length_singleton]; omega) hg (fun k hk => HRO.out.1 k hk) ho; rw [zX, List.length_singleton] at hG; have HG := zA hG; clear hG ho hb hg hat q0))
      all_goals
       go_wp2_with (fail)
       go_meet
       case rel => exact ⟨_, _, _, rfl, ⟨(HG.out.toE hgw (by omega) (by have := HLE.out; omega))⟩⟩
     ·obtain ⟨out2, hl2, hb2, hS2⟩ := HX.out.toS
      have HS2 := zA hS2
      have hcp := (Kd.S_reads' hS2).2.1
      clear hS2 q0 q1 q2 q3 q4 j0 j1 j2 j3 j4
      have l1 : k ≤ cp := by omega
      have l2 : k + 1 ≤ out.length := by omega
      have l3 : k + 1 ≤ cp := by omega
      have l4 : IntKind.i64.wrap ((k : Int) + 1) = (k : Int) + 1 := IntWalk.i64_in _ (by omega)
      have l5 : (0 : Int) ≤ (k : Int) + 1 := by omega
      have l6 : ((k : Int) + 1).toNat = k + 1 := by omega
      have l7 : (k : Int) + 1 ≤ (out.length : Int) := by omega
      have hA : (if cp = k + 1 then some (⟨go, 0, none⟩ : Addr) else some ⟨go, (k + 1) * 5, none⟩) = if cp = k + 1 then some (⟨go, 0, none⟩ : Addr) else (some (⟨go, 0, none⟩ : Addr)).map (·.add ((k + 1) * (k38).sz)) := by
       split
       ·rfl
       ·simp [add_plain, show (k38).sz = 5 from rfl]
      have HA := zA hA
      clear hA
      go_region_law (refine Kd.S_delete_step k38 (w0 := w5.drew) w.heap.size (by rfl) (.tmp 102) (.tmp 106) 27 38 (by rfl) Try.underlying27 size_Scan (g := go) (n := out.length) (c := cp) (k := k) (m := out.length - (k + 1)) (c2 := cp - (k + 1)) (by simp [Act.eval, Act.put]) (by simp [Act.eval, Act.put]) HA.out (by rfl) (yG HS2.out) hk (Below.refl _ _) HX.out.d.keep.1 (fun w6 hs6 hb6 hg6 => ?_))
      have HS6 := zA hs6
      have HG6 := zA hg6
      clear hs6 hg6 hb6
      go_wp2_with (fail)
      all_goals
       (first | (have hc_ : cp = k + 1 := ‹_›; subst hc_) | skip)
       go_ret
       exact ⟨_, out2.eraseIdx k, rfl, Kd.N_mono (Kd.S_N HS6.out) (fun _ hk => hk.1), by have h_ := List.length_eraseIdx_le out2 k; have := HLE.out; omega, fun s hs => Nat.le_trans (hb2 s (List.mem_of_mem_eraseIdx hs)) (by decide), ((HX.out.d.drew.grown hgw HG6.out (fun k hk => by injection hk with hk; subst hk; exact HX.out.go0)).up (by omega))⟩
     ·have hz6 : z = 6 := by first | assumption | exact eq_of_beq (by assumption) | exact zI (by assumption)
      subst hz6
      simp only [show ((6 : Int) == 0) = false from rfl, show ((6 : Int) == 1) = false from rfl, show ((6 : Int) == 2) = false from rfl, show ((6 : Int) == 3) = false from rfl, show ((6 : Int) == 4) = false from rfl, show ((6 : Int) == 5) = false from rfl, show ((6 : Int) == 6) = true from rfl]
      go_loopw [5] (fun v5 w' => ∃ (j go' n cp' : Nat), v5 = .slice (some ⟨go', 0, none⟩) n cp' ∧ n = out.length + j ∧ (j = 0 ∨ n ≤ 41) ∧ Aside0 (SpN w0 w w' g c (m + 4 + 2 * j) gs (some ⟨go', 0, none⟩) n cp' k (out.length + 42))) (fun v5 w' => 50 - lenV v5)
      case atStart => exact ⟨0, go, out.length, cp, rfl, rfl, .inl rfl, ⟨HX.out.toN⟩⟩
      case round =>
       clear HX q0 q1 q2 q3 q4 j0 j1 j2 j3 j4
       obtain ⟨j, go', n, cp', rfl, hn, hj, HN⟩ := hrel
       have hj42 : j ≤ 41 := by omega
       have hn42 : n ≤ out.length + 41 := by omega
       have HNJ := zA hn
       clear hn
       go_upto_region 26 with (first | (go_at_call 51; go_loud (refine (HN.out.pick hgw (by omega) _ (by decide)).mono ?_; rintro e w5 ⟨z, rfl, hz0, hz1, hX⟩; replace HN := zA hX; clear hX; obtain ⟨A0, c0, x, y1, y2, y3, y4, hbx, hxc, hx6, hF⟩ := HN.out.box; have q0 := zK hbx 0; have j0 := zJ hbx 0; have q1 := zK hbx 1; have j1 := zJ hbx 1; have q2 := zK hbx 2; have j2 := zJ hbx 2; have q3 := zK hbx 3; have j3 := zJ hbx 3; have q4 := zK hbx 4; have j4 := zJ hbx 4; simp at q0 q1 q2 q3 q4; have HBX := zA hbx; have HF := zA hF; obtain ⟨out4, o1, o2, o3, o4⟩ := HN.out.nn; have HL4 := zA o1; have HS4 := zA o3; have HO4 := zA o4; clear hbx hF o1 o3 o4)))
       ·go_wp2_with (first | (go_at_call 106; go_loud (refine (spec_l12CopyScan.calls A0 c0 x y1 y2 y3 y4 _ _ _ _ _ w5 (Kd.F_now HF.out) hxc (copy_told _ _ _ _ _ hx6)).mono ?_; rintro e w3 ⟨v0, rfl, hr, hb⟩; obtain ⟨A9, c9, rfl⟩ := Kd.R_slice hr; have HR3 := zA hr; have HB3 := zA hb; clear hr hb q0 q1 q2 q3 q4 j0 j1 j2 j3 j4)) | ((with_reducible refine gate_builtin (b := .append) (xs := #[.tmp 116, .tmp 119]) rfl ?_); at_builtin; go_loud (refine Kd.N_append k38 (w0 := w3) w.heap.size rfl (.tmp 116) (.tmp 119) 27 38 (.agg #[.slice none 0 0, .int .i64 0, .int .i64 0, .int .i64 0, .int .i64 0]) 56 rfl Try.underlying27 info38 rfl (by decide) (by omega) (.slice (some ⟨go', 0, none⟩) n cp') out4 ⟨x, y1, y2, y3, y4⟩ [.slice A9 x.length c9, .int .i64 y1, .int .i64 y2, .int .i64 y3, .int .i64 y4] (fun k => w.heap.size ≤ k ∧ k ≠ gs) (fun k => w5.heap.size ≤ k) rfl rfl (k38_mkF _ _ ⟨x, y1, y2, y3, y4⟩ (yK HR3.out).2.1 (Kd.F_mono (Kd.R_F (Kd.R_bound HR3.out)) (fun _ hk => hk.2.1))) (fun k hk => ⟨⟨Nat.le_trans HN.out.d.keep.1 hk, by have := blk_lt HBX.out; omega⟩, fun he => by have := Kd.N_lt HO4.out k he.symm; omega⟩) (fun k hk => ⟨Nat.le_trans (Nat.le_trans HN.out.d.keep.1 HB3.out.size) hk, by have := blk_lt HBX.out; have := HB3.out.size; omega⟩) (Kd.N_below HO4.out HB3.out) (Below.refl _ _) (Nat.le_trans HN.out.d.keep.1 HB3.out.size) (by have := HL4.out; omega) ?_; intro v5 w4 ho hb hg hat; obtain ⟨go5, c5, e5, _, _, _⟩ := Kd.N_form ho (by simp); subst e5; rw [zX, List.length_singleton] at ho hat; have HN2 := zA (HN.out.push hgw HB3.out ho hg hat (by have := HL4.out; omega) (HS4.out.push hx6) (by omega)); clear ho hb hg hat)))
        go_roundw
        case rel => exact ⟨j + 1, _, _, _, rfl, by have := HL4.out; have := HNJ.out; omega, .inr (by have := HL4.out; omega), ⟨(HN2.out.mono (by omega) (Nat.le_refl _))⟩⟩
        case measure => simp [lenV]; have := HL4.out; omega
       ·go_meet
        case rel => exact ⟨_, _, _, rfl, ⟨(HN.out.toE hgw (by omega) (by have := HLE.out; omega))⟩⟩
     ·obtain ⟨oki, hfr, hRo, hrep⟩ := HX.out.repl hgw
      obtain ⟨_, hG⟩ := hrep none (some ⟨w5.heap.size, 0, none⟩) 0 [] (w5.alloc (Obj.cells #[] 3)) (by decide) (grown_of_below (zC (Below.refl _ _) _) none) (fun k hk => by cases hk) ⟨fun k hk => by injection hk with hk; subst hk; exact hfr _ (Nat.le_refl _), [], ⟨rfl, .inr ⟨w5.heap.size, 0, #[], rfl, HX.out.d.keep.1, blk_new _ _, Nat.le_refl _, by decide, rfl, rfl⟩⟩, Reps.none _ _⟩
      have HG := zA (show SpG w0 w ((w5.setCell ⟨gs, 0, none⟩ (.slice (some ⟨w5.heap.size, 0, none⟩) 0 0)).alloc (Obj.cells #[] 3)) g c (m + 2 + 2) gs go out.length cp k out by rw [← World.setCell_alloc_past _ _ _ _ nn]; exact hG)
      clear hfr hRo hrep hG
      go_meet
      case rel => exact ⟨_, _, _, rfl, ⟨(HG.out.toE hgw (by omega) (by have := HLE.out; omega))⟩⟩
    case rest =>
     clear HX q0 q1 q2 q3 q4 j0 j1 j2 j3 j4
     obtain ⟨go', n, cp', rfl, HE⟩ := hcut
     obtain ⟨A7, c7, x7, y1, y2, y3, y4, d0, d1, d2, d3, d4, hbx, ⟨p0, p1, p2, p3, p4⟩, ⟨f0, f1, f2, f3, f4⟩, hkn, hD, r, hr1, hr2, hN⟩ := HE.out
     have q0 := zK hbx 0
     have j0 := zJ hbx 0
     have q1 := zK hbx 1
     have j1 := zJ hbx 1
     have q2 := zK hbx 2
     have j2 := zJ hbx 2
     have q3 := zK hbx 3
     have j3 := zJ hbx 3
     have q4 := zK hbx 4
     have j4 := zJ hbx 4
     simp at q0 q1 q2 q3 q4
     have HN := zA hN
     have HD := zA hD
     have HS7 := zA hr2
     clear hbx hN hD hr2 HE
     go_wp2_with (fail)
     go_ret
     exact ⟨_, r, rfl, HN.out, hr1, HS7.out, HD.out.up (by omega)⟩
end Go.Proofs.Ytilimpjcdeeaiaa.G


namespace Go.Proofs.Ytilimpjcdeeaiaa.G
open Go.RowKit Go.Proofs.YtilimpjcdeeaiaaW.PrintWords Go.Proofs.YtilimpjcdeeaiaaW.PrintLast Go.Proofs.YtilimpjcdeeaiaaW.PrintMore
attribute [local go_sem] max2_int min2_int max_two min_two max_three min_three max_four min_four   -- for this text's walks alone
def laws_big.f (l0 : List Int) : Option (Bool) := some (decide ((l0.length : Int) > 1048576))
set_option maxHeartbeats 8000000 in
set_option maxRecDepth 100000 in
theorem laws_big.calls (A0 : Option Addr) (c0 : Nat) (l0 : List Int) (r : Bool) (w : World) (hr0 : Kd.C (Kd.int .u8) w A0 l0.length l0) (hc0 : l0.length ≤ c0) (h : laws_big.f l0 = some r) :
  Calls Try.prog 7 #[.slice A0 l0.length c0] w fun e w' => e = .returned (.bool r) ∧ Drawn0 w w' := by
 have HR0 := zA hr0
 have HC0 := zA hc0
 clear hr0 hc0
 have H : (some (decide ((l0.length : Int) > 1048576))) = some r := h
 clear h
 obtain rfl := Option.some.inj H
 go_enter Try.func7, Try.ntmps7
 go_wp2
 go_ret
 exact ⟨by first | rfl | (simp; done) | (simp [*]; done), by repeat (first | exact Drawn0.refl _ | apply Drawn0.step)⟩
end Go.Proofs.Ytilimpjcdeeaiaa.G


namespace Go.Proofs.Ytilimpjcdeeaiaa.G
open Go.RowKit Go.Proofs.YtilimpjcdeeaiaaW.PrintWords Go.Proofs.YtilimpjcdeeaiaaW.PrintLast Go.Proofs.YtilimpjcdeeaiaaW.PrintMore
attribute [local go_sem] max2_int min2_int max_two min_two max_three min_three max_four min_four   -- for this text's walks alone
def FrV (v : Value) : Prop := ∃ x1 x2 x3 x4 : Int, v = .agg #[.int .i64 x1, .int .i64 x2, .int .i64 x3, .int .i64 x4, .slice none 0 0]
def BoxV (b : Nat) (v : Value) (w : World) : Prop := ∃ (k : Nat) (x1 x2 x3 x4 : Int), v = .pointer (some ⟨k, 0, none⟩) ∧ b ≤ k ∧ w.heap[k]? = some (.cells #[.int .i64 x1, .int .i64 x2, .int .i64 x3, .int .i64 x4, .slice none 0 0] 26 (0, 0))
theorem BoxV.keep {b : Nat} {v : Value} {w w' : World} (h : BoxV b v w) (hk : KeptOn b w w') : BoxV b v w' := by
 obtain ⟨k, x1, x2, x3, x4, h1, h2, h3⟩ := h
 exact ⟨k, x1, x2, x3, x4, h1, h2, (hk.2 k h2 (blk_lt h3)).trans h3⟩
def drFrA (g gr : Nat) (v7 v8 v9 v10 v11 v12 v13 v14 v15 v16 v17 v18 v19 v20 v21 v22 v23 v3 : Value) : Act := ⟨#[.pointer (some ⟨g, 0, none⟩), undef, .pointer (some ⟨gr, 0, none⟩), v3, undef, undef, undef, v7, v8, v9, v10, v11, v12, v13, v14, v15, v16, v17, v18, v19, v20, v21, v22, v23, undef, undef, undef, undef, undef, undef, undef, undef, undef, undef, undef, undef, undef, undef, undef, undef, undef, undef, undef, undef, undef, undef, undef, undef, undef, undef, undef, undef, undef, undef, undef, undef, undef, undef, undef, undef, undef, undef, undef, undef, undef, undef, undef, undef, undef, undef, undef, undef], []⟩
structure drFrF (w0 ws : World) (g : Nat) (c : List Int) (m : Nat) (L : Nat → Bool) (v7 v8 v9 v10 v11 v12 v13 v14 v15 v16 v17 v18 v19 v20 v21 v22 v23 v3 : Value) (w : World) : Prop where
 d : DrS w0 ws w g c (m + 2 * cntL L [2, 6, 9, 13])
 f0 : L 0 = true → L 3 = false → RowV ws.heap.size 3 v7 w
 f1 : L 1 = true → v8 = .pointer (some ⟨g, 0, none⟩)
 f2 : L 2 = true → NumB 3 v9
 f3 : L 3 = true → L 4 = false → CellV ws.heap.size v10 w
 f4 : L 4 = true → NumV v11
 f5 : L 5 = true → v12 = .pointer (some ⟨g, 0, none⟩)
 f6 : L 6 = true → NumB 20 v13
 f7 : L 7 = true → NumV v14
 f8 : L 8 = true → v15 = .pointer (some ⟨g, 0, none⟩)
 f9 : L 9 = true → NumB 20 v16
 f10 : L 10 = true → NumV v17
 f11 : L 11 = true → L 14 = false → RowV ws.heap.size 5 v18 w
 f12 : L 12 = true → v19 = .pointer (some ⟨g, 0, none⟩)
 f13 : L 13 = true → NumB 5 v20
 f14 : L 14 = true → L 15 = false → CellV ws.heap.size v21 w
 f15 : L 15 = true → NumV v22
 f16 : L 16 = true → FrV v23
 f17 : L 17 = true → BoxV ws.heap.size v3 w
def drFrI (w0 ws : World) (g : Nat) (c : List Int) (m : Nat) (gr : Nat) (L : Nat → Bool) (a : Act) (w : World) : Prop := ∃ v7 v8 v9 v10 v11 v12 v13 v14 v15 v16 v17 v18 v19 v20 v21 v22 v23 v3 : Value, a = drFrA g gr v7 v8 v9 v10 v11 v12 v13 v14 v15 v16 v17 v18 v19 v20 v21 v22 v23 v3 ∧ drFrF w0 ws g c m L v7 v8 v9 v10 v11 v12 v13 v14 v15 v16 v17 v18 v19 v20 v21 v22 v23 v3 w
section
variable {ev : Operand → Value} {w : World} {dst : Option Tmp} {ty : TypeId} {pos : String} {aft : Array Edge} {gd : Option (Nat × Bool)}
theorem run_buildFr {x1 x2 x3 x4 : Operand} {a1 a2 a3 a4 : Int} (h1 : ev x1 = .int .i64 a1) (h2 : ev x2 = .int .i64 a2) (h3 : ev x3 = .int .i64 a3) (h4 : ev x4 = .int .i64 a4) : (execOp ev ⟨dst, .build 26 #[(0, x1), (1, x2), (2, x3), (3, x4)], ty, pos, aft, gd⟩).run Try.prog w = .ok (.value (.agg #[.int .i64 a1, .int .i64 a2, .int .i64 a3, .int .i64 a4, .slice none 0 0])) w := by
 go_simp
theorem run_allocFr : (execOp ev ⟨dst, .alloc 26, ty, pos, aft, gd⟩).run Try.prog w = .ok (.value (.pointer (some ⟨w.heap.size, 0, none⟩))) (w.alloc (Obj.cells #[.int .i64 0, .int .i64 0, .int .i64 0, .int .i64 0, .slice none 0 0] 26)) := by
 go_simp
theorem run_storeFr {p x : Operand} {k : Nat} {a1 a2 a3 a4 y1 y2 y3 y4 : Int} (hp : ev p = .pointer (some ⟨k, 0, none⟩)) (hx : ev x = .agg #[.int .i64 a1, .int .i64 a2, .int .i64 a3, .int .i64 a4, .slice none 0 0]) (hb : w.heap[k]? = some (.cells #[.int .i64 y1, .int .i64 y2, .int .i64 y3, .int .i64 y4, .slice none 0 0] 26 (0, 0))) : (execOp ev ⟨dst, .store 26 p x, ty, pos, aft, gd⟩).run Try.prog w = .ok .skip (((((w.setCell ⟨k, 0, none⟩ (.int .i64 a1)).setCell ⟨k, 1, none⟩ (.int .i64 a2)).setCell ⟨k, 2, none⟩ (.int .i64 a3)).setCell ⟨k, 3, none⟩ (.int .i64 a4)).setCell ⟨k, 4, none⟩ (.slice none 0 0)) := by
 have q0 := zK hb 0
 have z0 := zJ hb 0
 have q1 := zK hb 1
 have z1 := zJ hb 1
 have q2 := zK hb 2
 have z2 := zJ hb 2
 have q3 := zK hb 3
 have z3 := zJ hb 3
 have q4 := zK hb 4
 have z4 := zJ hb 4
 simp at q0 q1 q2 q3 q4
 clear hb
 go_simp
theorem storeFr_blk {k : Nat} {a1 a2 a3 a4 y1 y2 y3 y4 : Int} (hb : w.heap[k]? = some (.cells #[.int .i64 y1, .int .i64 y2, .int .i64 y3, .int .i64 y4, .slice none 0 0] 26 (0, 0))) : (((((w.setCell ⟨k, 0, none⟩ (.int .i64 a1)).setCell ⟨k, 1, none⟩ (.int .i64 a2)).setCell ⟨k, 2, none⟩ (.int .i64 a3)).setCell ⟨k, 3, none⟩ (.int .i64 a4)).setCell ⟨k, 4, none⟩ (.slice none 0 0)).heap[k]? = some (.cells #[.int .i64 a1, .int .i64 a2, .int .i64 a3, .int .i64 a4, .slice none 0 0] 26 (0, 0)) := by
 have h := blk_set (blk_set (blk_set (blk_set (blk_set hb 0 (.int .i64 a1)) 1 (.int .i64 a2)) 2 (.int .i64 a3)) 3 (.int .i64 a4)) 4 (.slice none 0 0)
 simpa using h
end
/-- the frame's box, the result's, and the components' row -/
structure FrK (w0 w W : World) (g : Nat) (c : List Int) (m gr gf : Nat) (v : Value) (l : List S102) : Prop where
 d : DrS w0 w W g c m
 r : W.heap[gr]? = some (.cells #[.int .i64 0, .int .i64 0, .int .i64 0, .int .i64 0, .slice none 0 0] 26 (0, 0))
 f : ∃ x1 x2 x3 x4 : Int, W.heap[gf]? = some (.cells #[.int .i64 x1, .int .i64 x2, .int .i64 x3, .int .i64 x4, v] 26 (0, 0))
 gr0 : w.heap.size ≤ gr
 gf0 : w.heap.size ≤ gf
 ne : gr ≠ gf
 row : Kd.R k102 102 W w.heap.size (fun _ => True) v l
structure FrX (w0 w W : World) (g : Nat) (c : List Int) (m gr gf gx : Nat) (v : Value) (l : List S102) : Prop where
 k : FrK w0 w W g c m gr gf v l
 x : ∃ y1 y2 y3 y4 : Int, W.heap[gx]? = some (.cells #[.int .i64 y1, .int .i64 y2, .int .i64 y3, .int .i64 y4] 102 (0, 0))
 gx0 : w.heap.size ≤ gx
 row : Kd.R k102 102 W w.heap.size (fun k => k ≠ gx) v l
theorem FrK.kept {w0 w W W' : World} {g : Nat} {c : List Int} {m m' gr gf : Nat} {v : Value} {l : List S102} (h : FrK w0 w W g c m gr gf v l) (hd : DrS w0 w W' g c m') (hk : KeptOn w.heap.size W W') : FrK w0 w W' g c m' gr gf v l := by
 obtain ⟨x1, x2, x3, x4, hf⟩ := h.f
 exact ⟨hd, (hk.2 gr h.gr0 (blk_lt h.r)).trans h.r, ⟨x1, x2, x3, x4, (hk.2 gf h.gf0 (blk_lt hf)).trans hf⟩, h.gr0, h.gf0, h.ne, zP (Kd.R_step (Kd.R_bound h.row) (fun k hk' hlt => hk.2 k hk'.2.1 hlt)) (fun _ _ => trivial)⟩
theorem FrX.kept {w0 w W W' : World} {g : Nat} {c : List Int} {m m' gr gf gx : Nat} {v : Value} {l : List S102} (h : FrX w0 w W g c m gr gf gx v l) (hd : DrS w0 w W' g c m') (hk : KeptOn w.heap.size W W') : FrX w0 w W' g c m' gr gf gx v l := by
 obtain ⟨y1, y2, y3, y4, hx⟩ := h.x
 exact ⟨h.k.kept hd hk, ⟨y1, y2, y3, y4, (hk.2 gx h.gx0 (blk_lt hx)).trans hx⟩, h.gx0, zP (Kd.R_step (Kd.R_bound h.row) (fun k hk' hlt => hk.2 k hk'.2.1 hlt)) (fun _ hk => hk.1)⟩
theorem FrX.up {w0 w W : World} {g : Nat} {c : List Int} {m m' gr gf gx : Nat} {v : Value} {l : List S102} (h : FrX w0 w W g c m gr gf gx v l) (hm : m ≤ m') : FrX w0 w W g c m' gr gf gx v l := h.kept (h.k.d.up hm) (KeptOn.refl _ _)
theorem FrX.put {w0 w W : World} {g : Nat} {c : List Int} {m gr gf gx : Nat} {v : Value} {l : List S102} (h : FrX w0 w W g c m gr gf gx v l) (hg : g < w.heap.size) (j : Nat) (hj : j < 4) (y : Int) : FrX w0 w (W.setCell ⟨gx, j, none⟩ (.int .i64 y)) g c m gr gf gx v l := by
 obtain ⟨y1, y2, y3, y4, hx⟩ := h.x
 obtain ⟨x1, x2, x3, x4, hf⟩ := h.k.f
 have n1 : gr ≠ gx := blk_ne h.k.r hx (by decide)
 have n2 : gf ≠ gx := blk_ne hf hx (by decide)
 have hr := Kd.R_far h.row (p := ⟨gx, j, none⟩) (fun _ hk => hk) (.int .i64 y)
 refine ⟨⟨h.k.d.set hg h.gx0 j _, blk_far h.k.r n1 _, ⟨x1, x2, x3, x4, blk_far hf n2 _⟩, h.k.gr0, h.k.gf0, h.k.ne, zP hr (fun _ _ => trivial)⟩, ?_, h.gx0, hr⟩
 have h2 := blk_set hx j (.int .i64 y)
 have hjj : j = 0 ∨ j = 1 ∨ j = 2 ∨ j = 3 := by omega
 rcases hjj with rfl | rfl | rfl | rfl
 ·exact ⟨y, y2, y3, y4, by simpa using h2⟩
 ·exact ⟨y1, y, y3, y4, by simpa using h2⟩
 ·exact ⟨y1, y2, y, y4, by simpa using h2⟩
 ·exact ⟨y1, y2, y3, y, by simpa using h2⟩
theorem FrK.box {w0 w W : World} {g : Nat} {c : List Int} {m gr gf : Nat} {v : Value} {l : List S102} (h : FrK w0 w W g c m gr gf v l) (y1 y2 y3 y4 : Int) :
  FrX w0 w (W.alloc (.cells #[.int .i64 y1, .int .i64 y2, .int .i64 y3, .int .i64 y4] 102)) g c m gr gf W.heap.size v l :=
 ⟨h.kept (h.d.alloc _) (KeptOn.alloc _ _ _), ⟨y1, y2, y3, y4, blk_new _ _⟩, h.d.keep.1, zP (zN (Kd.R_elderB h.row W.heap.size (Nat.le_refl _)) _) (fun _ hk => hk.2)⟩
theorem FrK.fin {w0 w W : World} {g : Nat} {c : List Int} {m gr gf : Nat} {v : Value} {l : List S102} (h : FrK w0 w W g c m gr gf v l) (hg : g < w.heap.size) (a1 a2 a3 a4 : Int) :
  (((((W.setCell ⟨gr, 0, none⟩ (.int .i64 a1)).setCell ⟨gr, 1, none⟩ (.int .i64 a2)).setCell ⟨gr, 2, none⟩ (.int .i64 a3)).setCell ⟨gr, 3, none⟩ (.int .i64 a4)).setCell ⟨gr, 4, none⟩ v).heap[gr]? = some (.cells #[.int .i64 a1, .int .i64 a2, .int .i64 a3, .int .i64 a4, v] 26 (0, 0)) ∧
  DrS w0 w (((((W.setCell ⟨gr, 0, none⟩ (.int .i64 a1)).setCell ⟨gr, 1, none⟩ (.int .i64 a2)).setCell ⟨gr, 2, none⟩ (.int .i64 a3)).setCell ⟨gr, 3, none⟩ (.int .i64 a4)).setCell ⟨gr, 4, none⟩ v) g c m ∧
  Kd.R k102 102 (((((W.setCell ⟨gr, 0, none⟩ (.int .i64 a1)).setCell ⟨gr, 1, none⟩ (.int .i64 a2)).setCell ⟨gr, 2, none⟩ (.int .i64 a3)).setCell ⟨gr, 3, none⟩ (.int .i64 a4)).setCell ⟨gr, 4, none⟩ v) w.heap.size (fun k => w.heap.size ≤ k) v l := by
 have b1 := blk_set h.r 0 (.int .i64 a1)
 have b2 := blk_set b1 1 (.int .i64 a2)
 have b3 := blk_set b2 2 (.int .i64 a3)
 have b4 := blk_set b3 3 (.int .i64 a4)
 have b5 := blk_set b4 4 v
 refine ⟨by simpa using b5, ((((h.d.set hg h.gr0 0 _).set hg h.gr0 1 _).set hg h.gr0 2 _).set hg h.gr0 3 _).set hg h.gr0 4 _, ?_⟩
 have r := zP (Kd.R_bound h.row) (fun k hk => hk.2.1)
 exact Kd.R_set (Kd.R_set (Kd.R_set (Kd.R_set (Kd.R_set r h.r (by decide) 0 _) b1 (by decide) 1 _) b2 (by decide) 2 _) b3 (by decide) 3 _) b4 (by decide) 4 _
/-- the component is behind the others: the frame's box holds the new row -/
theorem FrX.push {w0 w W W' : World} {g : Nat} {c : List Int} {m gr gf gx : Nat} {v v' : Value} {l l' : List S102} (h : FrX w0 w W g c m gr gf gx v l) (hg : g < w.heap.size) (hr : Kd.R k102 102 W' w.heap.size (fun k => k ≠ gx) v' l') (hb : W.grownBy W' v.ownBlock) : FrK w0 w (W'.setCell ⟨gf, 4, none⟩ v') g c m gr gf v' l' := by
 obtain ⟨x1, x2, x3, x4, hf⟩ := h.k.f
 have h1 := h.k.d.grown hg hb (fun k hk => Kd.R_base h.row k hk)
 have h2 := blk_grown h.k.r hb (Kd.R_ne h.row h.k.r (by decide))
 have h3 := blk_grown hf hb (Kd.R_ne h.row hf (by decide))
 refine ⟨h1.set hg h.k.gf0 4 v', blk_far h2 h.k.ne _, ⟨x1, x2, x3, x4, ?_⟩, h.k.gr0, h.k.gf0, h.k.ne, zP (Kd.R_set hr h3 (by decide) 4 v') (fun _ _ => trivial)⟩
 have h4 := blk_set h3 4 v'
 simpa using h4
def DrawnFr (w0 w : World) (g : Nat) (c : List Int) (m : Nat) (e : Ending) (w' : World) : Prop :=
 ∃ (p wd hg rs : Int) (v : Value) (l : List S102), e = .returned (.agg #[.int .i64 p, .int .i64 wd, .int .i64 hg, .int .i64 rs, v]) ∧ Kd.R k102 102 w' w.heap.size (fun k => w.heap.size ≤ k) v l ∧ 1 ≤ l.length ∧ l.length ≤ 4 ∧ DrS w0 w w' g c (m + 100)
set_option maxRecDepth 100000 in
set_option maxHeartbeats 4000000 in
theorem drawFrame_calls (g : Nat) (c : List Int) (m : Nat) (w0 w : World) (hC : CurW w0 w g c m) (hB : Below w0.heap.size w0 w) (hm : m ≤ 100000000000) :
  Calls Try.prog 104 #[.pointer (some ⟨g, 0, none⟩)] w (DrawnFr w0 w g c m) := by
 have HD := zA (show DrS w0 w w g c m from ⟨hC, hB, KeepBut.refl w g none⟩)
 have hgw := hC.lt
 clear hC hB
 go_enter Try.func104, Try.ntmps104
 go_upto_region 1 with (fail)
 rename_i next_
 have HD1 := zA (HD.out.alloc (Obj.cells #[.int .i64 0, .int .i64 0, .int .i64 0, .int .i64 0, .slice none 0 0] 26))
 have k1 := blk_new w (Obj.cells #[.int .i64 0, .int .i64 0, .int .i64 0, .int .i64 0, .slice none 0 0] 26)
 have hz : (w.alloc (Obj.cells #[.int .i64 0, .int .i64 0, .int .i64 0, .int .i64 0, .slice none 0 0] 26)).heap.size = w.heap.size + 1 := yJ _ _
 generalize hW1 : w.alloc (Obj.cells #[.int .i64 0, .int .i64 0, .int .i64 0, .int .i64 0, .slice none 0 0] 26) = W1 at HD1 k1 hz ⊢
 have HW1 := zA hW1
 have hgs : g < W1.heap.size := by omega
 have HD2 := HD1.out.cur
 refine wp_region_inv (drFrI w0 W1 g c m w.heap.size) (by kernel_rfl) (by kernel_rfl) ?start ?steps ?done
 case start =>
  intro L hL
  have c0 : cntL L [2, 6, 9, 13] = 0 := by simp [cntL, hL 2 (by decide), hL 6 (by decide), hL 9 (by decide), hL 13 (by decide)]
  have no : ∀ j, j < 19 → L j = true → False := fun j hj h => by rw [hL j hj] at h; cases h
  exact ⟨undef, undef, undef, undef, undef, undef, undef, undef, undef, undef, undef, undef, undef, undef, undef, undef, undef, undef, rfl, ⟨by rw [c0]; exact (show DrS w0 W1 W1 g c m from ⟨HD2, HD1.out.below, KeepBut.refl _ _ _⟩).drew, fun h _ => absurd h (no 0 (by decide)), fun h => absurd h (no 1 (by decide)), fun h => absurd h (no 2 (by decide)), fun h _ => absurd h (no 3 (by decide)), fun h => absurd h (no 4 (by decide)), fun h => absurd h (no 5 (by decide)), fun h => absurd h (no 6 (by decide)), fun h => absurd h (no 7 (by decide)), fun h => absurd h (no 8 (by decide)), fun h => absurd h (no 9 (by decide)), fun h => absurd h (no 10 (by decide)), fun h _ => absurd h (no 11 (by decide)), fun h => absurd h (no 12 (by decide)), fun h => absurd h (no 13 (by decide)), fun h _ => absurd h (no 14 (by decide)), fun h => absurd h (no 15 (by decide)), fun h => absurd h (no 16 (by decide)), fun h => absurd h (no 17 (by decide))⟩⟩
 case steps =>
  clear HD HD1 HD2 HW1 next_
  refine ⟨?_, ⟨?_, ⟨?_, ⟨?_, ⟨?_, ⟨?_, ⟨?_, ⟨?_, ⟨?_, ⟨?_, ⟨?_, ⟨?_, ⟨?_, ⟨?_, ⟨?_, ⟨?_, ⟨?_, ⟨?_, ⟨?_, trivial⟩⟩⟩⟩⟩⟩⟩⟩⟩⟩⟩⟩⟩⟩⟩⟩⟩⟩⟩
  ·refine ⟨_, rfl, fun Q K L a w hL hdep hI hK => ?_⟩
   replace hdep : ∀ d ∈ ([17, 16, 13, 0, 1, 2, 3, 4, 5, 6, 7, 8, 9, 10, 11, 12, 13, 14, 15, 16, 17] : List Nat), L d = true := hdep
   obtain ⟨v7, v8, v9, v10, v11, v12, v13, v14, v15, v16, v17, v18, v19, v20, v21, v22, v23, v3, ha, hF⟩ := hI
   have e3 : a.eval (.tmp 3) = v3 := by rw [ha]; kernel_rfl
   have e23 : a.eval (.tmp 23) = v23 := by rw [ha]; kernel_rfl
   obtain ⟨x1, x2, x3, x4, hv⟩ := hF.f16 (hdep 16 (by decide))
   obtain ⟨gf, y1, y2, y3, y4, hp, hgf, hbf⟩ := hF.f17 (hdep 17 (by decide))
   have h3 := hdep 3 (by decide)
   have h4 := hdep 4 (by decide)
   have h14 := hdep 14 (by decide)
   have h15 := hdep 15 (by decide)
   exact skip_step rfl (run_storeFr (e3.trans hp) (e23.trans hv) hbf) (hK _ _ ⟨v7, v8, v9, v10, v11, v12, v13, v14, v15, v16, v17, v18, v19, v20, v21, v22, v23, v3, by rw [ha]; kernel_rfl, ⟨((((((hF.d.set hgs hgf 0 (.int .i64 x1)).set hgs hgf 1 (.int .i64 x2)).set hgs hgf 2 (.int .i64 x3)).set hgs hgf 3 (.int .i64 x4)).set hgs hgf 4 (.slice none 0 0))), (fun _ h => absurd (h3.symm.trans h) (by decide)), hF.f1, hF.f2, (fun _ h => absurd (h4.symm.trans h) (by decide)), hF.f4, hF.f5, hF.f6, hF.f7, hF.f8, hF.f9, hF.f10, (fun _ h => absurd (h14.symm.trans h) (by decide)), hF.f12, hF.f13, (fun _ h => absurd (h15.symm.trans h) (by decide)), hF.f15, hF.f16, (fun _ => ⟨gf, x1, x2, x3, x4, hp, hgf, storeFr_blk hbf⟩)⟩⟩)
  ·refine ⟨_, rfl, fun Q K L a w hL hdep hI hK => ?_⟩
   replace hdep : ∀ d ∈ ([] : List Nat), L d = true := hdep
   obtain ⟨v7, v8, v9, v10, v11, v12, v13, v14, v15, v16, v17, v18, v19, v20, v21, v22, v23, v3, ha, hF⟩ := hI
   exact event_step rfl run_allocFr (hK _ _ ⟨v7, v8, v9, v10, v11, v12, v13, v14, v15, v16, v17, v18, v19, v20, v21, v22, v23, .pointer (some ⟨w.heap.size, 0, none⟩), by rw [ha]; kernel_rfl, ⟨(hF.d.alloc _), (fun h1 h2 => (hF.f0 h1 h2).keep (KeptOn.alloc _ w _)), hF.f1, hF.f2, (fun h1 h2 => (hF.f3 h1 h2).keep (KeptOn.alloc _ w _)), hF.f4, hF.f5, hF.f6, hF.f7, hF.f8, hF.f9, hF.f10, (fun h1 h2 => (hF.f11 h1 h2).keep (KeptOn.alloc _ w _)), hF.f12, hF.f13, (fun h1 h2 => (hF.f14 h1 h2).keep (KeptOn.alloc _ w _)), hF.f15, hF.f16, (fun _ => ⟨_, 0, 0, 0, 0, rfl, hF.d.keep.1, blk_new _ _⟩)⟩⟩)
  ·refine ⟨_, rfl, fun Q K L a w hL hdep hI hK => ?_⟩
   replace hdep : ∀ d ∈ ([4, 7, 10, 15] : List Nat), L d = true := hdep
   obtain ⟨v7, v8, v9, v10, v11, v12, v13, v14, v15, v16, v17, v18, v19, v20, v21, v22, v23, v3, ha, hF⟩ := hI
   have e11 : a.eval (.tmp 11) = v11 := by rw [ha]; kernel_rfl
   have e14 : a.eval (.tmp 14) = v14 := by rw [ha]; kernel_rfl
   have e17 : a.eval (.tmp 17) = v17 := by rw [ha]; kernel_rfl
   have e22 : a.eval (.tmp 22) = v22 := by rw [ha]; kernel_rfl
   obtain ⟨x1, h1⟩ := hF.f4 (hdep 4 (by decide))
   obtain ⟨x2, h2⟩ := hF.f7 (hdep 7 (by decide))
   obtain ⟨x3, h3⟩ := hF.f10 (hdep 10 (by decide))
   obtain ⟨x4, h4⟩ := hF.f15 (hdep 15 (by decide))
   exact event_step rfl (run_buildFr (e11.trans h1) (e14.trans h2) (e17.trans h3) (e22.trans h4)) (hK _ _ ⟨v7, v8, v9, v10, v11, v12, v13, v14, v15, v16, v17, v18, v19, v20, v21, v22, .agg #[.int .i64 x1, .int .i64 x2, .int .i64 x3, .int .i64 x4, .slice none 0 0], v3, by rw [ha]; kernel_rfl, ⟨hF.d, hF.f0, hF.f1, hF.f2, hF.f3, hF.f4, hF.f5, hF.f6, hF.f7, hF.f8, hF.f9, hF.f10, hF.f11, hF.f12, hF.f13, hF.f14, hF.f15, (fun _ => ⟨x1, x2, x3, x4, rfl⟩), hF.f17⟩⟩)
  ·refine ⟨_, rfl, fun Q K L a w hL hdep hI hK => ?_⟩
   replace hdep : ∀ d ∈ ([14] : List Nat), L d = true := hdep
   obtain ⟨v7, v8, v9, v10, v11, v12, v13, v14, v15, v16, v17, v18, v19, v20, v21, v22, v23, v3, ha, hF⟩ := hI
   have e21 : a.eval (.tmp 21) = v21 := by rw [ha]; kernel_rfl
   obtain ⟨k, j, x, hp, hb, hc⟩ := hF.f14 (hdep 14 (by decide)) hL
   exact event_step rfl (run_loadInt (e21.trans hp) hc) (hK _ _ ⟨v7, v8, v9, v10, v11, v12, v13, v14, v15, v16, v17, v18, v19, v20, v21, .int .i64 x, v23, v3, by rw [ha]; kernel_rfl, ⟨hF.d, hF.f0, hF.f1, hF.f2, hF.f3, hF.f4, hF.f5, hF.f6, hF.f7, hF.f8, hF.f9, hF.f10, hF.f11, hF.f12, hF.f13, (fun _ h => absurd h (by rw [gone1_self]; decide)), (fun _ => ⟨x, rfl⟩), hF.f16, hF.f17⟩⟩)
  ·refine ⟨_, rfl, fun Q K L a w hL hdep hI hK => ?_⟩
   replace hdep : ∀ d ∈ ([11, 13] : List Nat), L d = true := hdep
   obtain ⟨v7, v8, v9, v10, v11, v12, v13, v14, v15, v16, v17, v18, v19, v20, v21, v22, v23, v3, ha, hF⟩ := hI
   have e18 : a.eval (.tmp 18) = v18 := by rw [ha]; kernel_rfl
   have e20 : a.eval (.tmp 20) = v20 := by rw [ha]; kernel_rfl
   obtain ⟨x, hx, x0, x1⟩ := hF.f13 (hdep 13 (by decide))
   obtain ⟨k, hs, hc⟩ := (hF.f11 (hdep 11 (by decide)) hL).at_ x x0 (by omega)
   exact event_step rfl (run_index (e18.trans hs) (e20.trans hx) x0 (by omega)) (hK _ _ ⟨v7, v8, v9, v10, v11, v12, v13, v14, v15, v16, v17, v18, v19, v20, .pointer (some ⟨k, x.toNat, none⟩), v22, v23, v3, by rw [ha]; kernel_rfl, ⟨hF.d, hF.f0, hF.f1, hF.f2, hF.f3, hF.f4, hF.f5, hF.f6, hF.f7, hF.f8, hF.f9, hF.f10, (fun _ h => absurd h (by rw [gone1_self]; decide)), hF.f12, hF.f13, (fun _ _ => hc), hF.f15, hF.f16, hF.f17⟩⟩)
  ·refine ⟨_, rfl, fun Q K L a w hL hdep hI hK => ?_⟩
   replace hdep : ∀ d ∈ ([12, 9] : List Nat), L d = true := hdep
   obtain ⟨v7, v8, v9, v10, v11, v12, v13, v14, v15, v16, v17, v18, v19, v20, v21, v22, v23, v3, ha, hF⟩ := hI
   have e19 : a.eval (.tmp 19) = v19 := by rw [ha]; kernel_rfl
   have hcn := cntL_le L [2, 6, 9, 13]
   have hn_ : m + 2 * cntL L [2, 6, 9, 13] ≤ 1000000000000 := by simp at hcn; omega
   exact stp_pick (e19.trans (hF.f12 (hdep 12 (by decide)))) rfl hF.d hn_ hgs (fun z w' hz1 hz2 hD hk => (hK _ _ ⟨v7, v8, v9, v10, v11, v12, v13, v14, v15, v16, v17, v18, v19, .int .i64 z, v21, v22, v23, v3, by rw [ha]; kernel_rfl, ⟨(by rw [(show m + 2 * cntL (gone1 L 13) [2, 6, 9, 13] = m + 2 * cntL L [2, 6, 9, 13] + 2 from by have e : L 13 = false := hL; simp [cntL, gone1, e]; omega)]; exact hD), (fun h1 h2 => (hF.f0 h1 h2).keep hk), hF.f1, hF.f2, (fun h1 h2 => (hF.f3 h1 h2).keep hk), hF.f4, hF.f5, hF.f6, hF.f7, hF.f8, hF.f9, hF.f10, (fun h1 h2 => (hF.f11 h1 h2).keep hk), hF.f12, (fun _ => ⟨z, rfl, hz1, by omega⟩), (fun h1 h2 => (hF.f14 h1 h2).keep hk), hF.f15, hF.f16, (fun h1 => (hF.f17 h1).keep hk)⟩⟩))
  ·refine ⟨_, rfl, fun Q K L a w hL hdep hI hK => ?_⟩
   replace hdep : ∀ d ∈ ([] : List Nat), L d = true := hdep
   obtain ⟨v7, v8, v9, v10, v11, v12, v13, v14, v15, v16, v17, v18, v19, v20, v21, v22, v23, v3, ha, hF⟩ := hI
   have e0 : a.eval (.tmp 0) = .pointer (some ⟨g, 0, none⟩) := by rw [ha]; kernel_rfl
   exact event_step rfl (run_move e0) (hK _ _ ⟨v7, v8, v9, v10, v11, v12, v13, v14, v15, v16, v17, v18, .pointer (some ⟨g, 0, none⟩), v20, v21, v22, v23, v3, by rw [ha]; kernel_rfl, ⟨hF.d, hF.f0, hF.f1, hF.f2, hF.f3, hF.f4, hF.f5, hF.f6, hF.f7, hF.f8, hF.f9, hF.f10, hF.f11, (fun _ => rfl), hF.f13, hF.f14, hF.f15, hF.f16, hF.f17⟩⟩)
  ·refine ⟨_, rfl, fun Q K L a w hL hdep hI hK => ?_⟩
   replace hdep : ∀ d ∈ ([] : List Nat), L d = true := hdep
   obtain ⟨v7, v8, v9, v10, v11, v12, v13, v14, v15, v16, v17, v18, v19, v20, v21, v22, v23, v3, ha, hF⟩ := hI
   exact event_step rfl (run_row5 rfl rfl rfl rfl rfl) (hK _ _ ⟨v7, v8, v9, v10, v11, v12, v13, v14, v15, v16, v17, .slice (some ⟨w.heap.size, 0, none⟩) 5 5, v19, v20, v21, v22, v23, v3, by rw [ha]; kernel_rfl, ⟨(hF.d.alloc _), (fun h1 h2 => (hF.f0 h1 h2).keep (KeptOn.alloc _ w _)), hF.f1, hF.f2, (fun h1 h2 => (hF.f3 h1 h2).keep (KeptOn.alloc _ w _)), hF.f4, hF.f5, hF.f6, hF.f7, hF.f8, hF.f9, hF.f10, (fun _ _ => RowV.new _ w [0, 0, 1, 2, 5] 5 rfl hF.d.keep.1), hF.f12, hF.f13, (fun h1 h2 => (hF.f14 h1 h2).keep (KeptOn.alloc _ w _)), hF.f15, hF.f16, (fun h1 => (hF.f17 h1).keep (KeptOn.alloc _ w _))⟩⟩)
  ·refine ⟨_, rfl, fun Q K L a w hL hdep hI hK => ?_⟩
   replace hdep : ∀ d ∈ ([9] : List Nat), L d = true := hdep
   obtain ⟨v7, v8, v9, v10, v11, v12, v13, v14, v15, v16, v17, v18, v19, v20, v21, v22, v23, v3, ha, hF⟩ := hI
   have e16 : a.eval (.tmp 16) = v16 := by rw [ha]; kernel_rfl
   obtain ⟨x, hx, x0, x1⟩ := hF.f9 (hdep 9 (by decide))
   exact event_step rfl (run_add rfl (e16.trans hx)) (hK _ _ ⟨v7, v8, v9, v10, v11, v12, v13, v14, v15, v16, .int .i64 (IntKind.i64.wrap (1 + x)), v18, v19, v20, v21, v22, v23, v3, by rw [ha]; kernel_rfl, ⟨hF.d, hF.f0, hF.f1, hF.f2, hF.f3, hF.f4, hF.f5, hF.f6, hF.f7, hF.f8, hF.f9, (fun _ => ⟨_, rfl⟩), hF.f11, hF.f12, hF.f13, hF.f14, hF.f15, hF.f16, hF.f17⟩⟩)
  ·refine ⟨_, rfl, fun Q K L a w hL hdep hI hK => ?_⟩
   replace hdep : ∀ d ∈ ([8, 6] : List Nat), L d = true := hdep
   obtain ⟨v7, v8, v9, v10, v11, v12, v13, v14, v15, v16, v17, v18, v19, v20, v21, v22, v23, v3, ha, hF⟩ := hI
   have e15 : a.eval (.tmp 15) = v15 := by rw [ha]; kernel_rfl
   have hcn := cntL_le L [2, 6, 9, 13]
   have hn_ : m + 2 * cntL L [2, 6, 9, 13] ≤ 1000000000000 := by simp at hcn; omega
   exact stp_pick (e15.trans (hF.f8 (hdep 8 (by decide)))) rfl hF.d hn_ hgs (fun z w' hz1 hz2 hD hk => (hK _ _ ⟨v7, v8, v9, v10, v11, v12, v13, v14, v15, .int .i64 z, v17, v18, v19, v20, v21, v22, v23, v3, by rw [ha]; kernel_rfl, ⟨(by rw [(show m + 2 * cntL (gone1 L 9) [2, 6, 9, 13] = m + 2 * cntL L [2, 6, 9, 13] + 2 from by have e : L 9 = false := hL; simp [cntL, gone1, e]; omega)]; exact hD), (fun h1 h2 => (hF.f0 h1 h2).keep hk), hF.f1, hF.f2, (fun h1 h2 => (hF.f3 h1 h2).keep hk), hF.f4, hF.f5, hF.f6, hF.f7, hF.f8, (fun _ => ⟨z, rfl, hz1, by omega⟩), hF.f10, (fun h1 h2 => (hF.f11 h1 h2).keep hk), hF.f12, hF.f13, (fun h1 h2 => (hF.f14 h1 h2).keep hk), hF.f15, hF.f16, (fun h1 => (hF.f17 h1).keep hk)⟩⟩))
  ·refine ⟨_, rfl, fun Q K L a w hL hdep hI hK => ?_⟩
   replace hdep : ∀ d ∈ ([] : List Nat), L d = true := hdep
   obtain ⟨v7, v8, v9, v10, v11, v12, v13, v14, v15, v16, v17, v18, v19, v20, v21, v22, v23, v3, ha, hF⟩ := hI
   have e0 : a.eval (.tmp 0) = .pointer (some ⟨g, 0, none⟩) := by rw [ha]; kernel_rfl
   exact event_step rfl (run_move e0) (hK _ _ ⟨v7, v8, v9, v10, v11, v12, v13, v14, .pointer (some ⟨g, 0, none⟩), v16, v17, v18, v19, v20, v21, v22, v23, v3, by rw [ha]; kernel_rfl, ⟨hF.d, hF.f0, hF.f1, hF.f2, hF.f3, hF.f4, hF.f5, hF.f6, hF.f7, (fun _ => rfl), hF.f9, hF.f10, hF.f11, hF.f12, hF.f13, hF.f14, hF.f15, hF.f16, hF.f17⟩⟩)
  ·refine ⟨_, rfl, fun Q K L a w hL hdep hI hK => ?_⟩
   replace hdep : ∀ d ∈ ([6] : List Nat), L d = true := hdep
   obtain ⟨v7, v8, v9, v10, v11, v12, v13, v14, v15, v16, v17, v18, v19, v20, v21, v22, v23, v3, ha, hF⟩ := hI
   have e13 : a.eval (.tmp 13) = v13 := by rw [ha]; kernel_rfl
   obtain ⟨x, hx, x0, x1⟩ := hF.f6 (hdep 6 (by decide))
   exact event_step rfl (run_add rfl (e13.trans hx)) (hK _ _ ⟨v7, v8, v9, v10, v11, v12, v13, .int .i64 (IntKind.i64.wrap (1 + x)), v15, v16, v17, v18, v19, v20, v21, v22, v23, v3, by rw [ha]; kernel_rfl, ⟨hF.d, hF.f0, hF.f1, hF.f2, hF.f3, hF.f4, hF.f5, hF.f6, (fun _ => ⟨_, rfl⟩), hF.f8, hF.f9, hF.f10, hF.f11, hF.f12, hF.f13, hF.f14, hF.f15, hF.f16, hF.f17⟩⟩)
  ·refine ⟨_, rfl, fun Q K L a w hL hdep hI hK => ?_⟩
   replace hdep : ∀ d ∈ ([5, 2] : List Nat), L d = true := hdep
   obtain ⟨v7, v8, v9, v10, v11, v12, v13, v14, v15, v16, v17, v18, v19, v20, v21, v22, v23, v3, ha, hF⟩ := hI
   have e12 : a.eval (.tmp 12) = v12 := by rw [ha]; kernel_rfl
   have hcn := cntL_le L [2, 6, 9, 13]
   have hn_ : m + 2 * cntL L [2, 6, 9, 13] ≤ 1000000000000 := by simp at hcn; omega
   exact stp_pick (e12.trans (hF.f5 (hdep 5 (by decide)))) rfl hF.d hn_ hgs (fun z w' hz1 hz2 hD hk => (hK _ _ ⟨v7, v8, v9, v10, v11, v12, .int .i64 z, v14, v15, v16, v17, v18, v19, v20, v21, v22, v23, v3, by rw [ha]; kernel_rfl, ⟨(by rw [(show m + 2 * cntL (gone1 L 6) [2, 6, 9, 13] = m + 2 * cntL L [2, 6, 9, 13] + 2 from by have e : L 6 = false := hL; simp [cntL, gone1, e]; omega)]; exact hD), (fun h1 h2 => (hF.f0 h1 h2).keep hk), hF.f1, hF.f2, (fun h1 h2 => (hF.f3 h1 h2).keep hk), hF.f4, hF.f5, (fun _ => ⟨z, rfl, hz1, by omega⟩), hF.f7, hF.f8, hF.f9, hF.f10, (fun h1 h2 => (hF.f11 h1 h2).keep hk), hF.f12, hF.f13, (fun h1 h2 => (hF.f14 h1 h2).keep hk), hF.f15, hF.f16, (fun h1 => (hF.f17 h1).keep hk)⟩⟩))
  ·refine ⟨_, rfl, fun Q K L a w hL hdep hI hK => ?_⟩
   replace hdep : ∀ d ∈ ([] : List Nat), L d = true := hdep
   obtain ⟨v7, v8, v9, v10, v11, v12, v13, v14, v15, v16, v17, v18, v19, v20, v21, v22, v23, v3, ha, hF⟩ := hI
   have e0 : a.eval (.tmp 0) = .pointer (some ⟨g, 0, none⟩) := by rw [ha]; kernel_rfl
   exact event_step rfl (run_move e0) (hK _ _ ⟨v7, v8, v9, v10, v11, .pointer (some ⟨g, 0, none⟩), v13, v14, v15, v16, v17, v18, v19, v20, v21, v22, v23, v3, by rw [ha]; kernel_rfl, ⟨hF.d, hF.f0, hF.f1, hF.f2, hF.f3, hF.f4, (fun _ => rfl), hF.f6, hF.f7, hF.f8, hF.f9, hF.f10, hF.f11, hF.f12, hF.f13, hF.f14, hF.f15, hF.f16, hF.f17⟩⟩)
  ·refine ⟨_, rfl, fun Q K L a w hL hdep hI hK => ?_⟩
   replace hdep : ∀ d ∈ ([3] : List Nat), L d = true := hdep
   obtain ⟨v7, v8, v9, v10, v11, v12, v13, v14, v15, v16, v17, v18, v19, v20, v21, v22, v23, v3, ha, hF⟩ := hI
   have e10 : a.eval (.tmp 10) = v10 := by rw [ha]; kernel_rfl
   obtain ⟨k, j, x, hp, hb, hc⟩ := hF.f3 (hdep 3 (by decide)) hL
   exact event_step rfl (run_loadInt (e10.trans hp) hc) (hK _ _ ⟨v7, v8, v9, v10, .int .i64 x, v12, v13, v14, v15, v16, v17, v18, v19, v20, v21, v22, v23, v3, by rw [ha]; kernel_rfl, ⟨hF.d, hF.f0, hF.f1, hF.f2, (fun _ h => absurd h (by rw [gone1_self]; decide)), (fun _ => ⟨x, rfl⟩), hF.f5, hF.f6, hF.f7, hF.f8, hF.f9, hF.f10, hF.f11, hF.f12, hF.f13, hF.f14, hF.f15, hF.f16, hF.f17⟩⟩)
  ·refine ⟨_, rfl, fun Q K L a w hL hdep hI hK => ?_⟩
   replace hdep : ∀ d ∈ ([0, 2] : List Nat), L d = true := hdep
   obtain ⟨v7, v8, v9, v10, v11, v12, v13, v14, v15, v16, v17, v18, v19, v20, v21, v22, v23, v3, ha, hF⟩ := hI
   have e7 : a.eval (.tmp 7) = v7 := by rw [ha]; kernel_rfl
   have e9 : a.eval (.tmp 9) = v9 := by rw [ha]; kernel_rfl
   obtain ⟨x, hx, x0, x1⟩ := hF.f2 (hdep 2 (by decide))
   obtain ⟨k, hs, hc⟩ := (hF.f0 (hdep 0 (by decide)) hL).at_ x x0 (by omega)
   exact event_step rfl (run_index (e7.trans hs) (e9.trans hx) x0 (by omega)) (hK _ _ ⟨v7, v8, v9, .pointer (some ⟨k, x.toNat, none⟩), v11, v12, v13, v14, v15, v16, v17, v18, v19, v20, v21, v22, v23, v3, by rw [ha]; kernel_rfl, ⟨hF.d, (fun _ h => absurd h (by rw [gone1_self]; decide)), hF.f1, hF.f2, (fun _ _ => hc), hF.f4, hF.f5, hF.f6, hF.f7, hF.f8, hF.f9, hF.f10, hF.f11, hF.f12, hF.f13, hF.f14, hF.f15, hF.f16, hF.f17⟩⟩)
  ·refine ⟨_, rfl, fun Q K L a w hL hdep hI hK => ?_⟩
   replace hdep : ∀ d ∈ ([1] : List Nat), L d = true := hdep
   obtain ⟨v7, v8, v9, v10, v11, v12, v13, v14, v15, v16, v17, v18, v19, v20, v21, v22, v23, v3, ha, hF⟩ := hI
   have e8 : a.eval (.tmp 8) = v8 := by rw [ha]; kernel_rfl
   have hcn := cntL_le L [2, 6, 9, 13]
   have hn_ : m + 2 * cntL L [2, 6, 9, 13] ≤ 1000000000000 := by simp at hcn; omega
   exact stp_pick (e8.trans (hF.f1 (hdep 1 (by decide)))) rfl hF.d hn_ hgs (fun z w' hz1 hz2 hD hk => (hK _ _ ⟨v7, v8, .int .i64 z, v10, v11, v12, v13, v14, v15, v16, v17, v18, v19, v20, v21, v22, v23, v3, by rw [ha]; kernel_rfl, ⟨(by rw [(show m + 2 * cntL (gone1 L 2) [2, 6, 9, 13] = m + 2 * cntL L [2, 6, 9, 13] + 2 from by have e : L 2 = false := hL; simp [cntL, gone1, e]; omega)]; exact hD), (fun h1 h2 => (hF.f0 h1 h2).keep hk), hF.f1, (fun _ => ⟨z, rfl, hz1, by omega⟩), (fun h1 h2 => (hF.f3 h1 h2).keep hk), hF.f4, hF.f5, hF.f6, hF.f7, hF.f8, hF.f9, hF.f10, (fun h1 h2 => (hF.f11 h1 h2).keep hk), hF.f12, hF.f13, (fun h1 h2 => (hF.f14 h1 h2).keep hk), hF.f15, hF.f16, (fun h1 => (hF.f17 h1).keep hk)⟩⟩))
  ·refine ⟨_, rfl, fun Q K L a w hL hdep hI hK => ?_⟩
   replace hdep : ∀ d ∈ ([] : List Nat), L d = true := hdep
   obtain ⟨v7, v8, v9, v10, v11, v12, v13, v14, v15, v16, v17, v18, v19, v20, v21, v22, v23, v3, ha, hF⟩ := hI
   have e0 : a.eval (.tmp 0) = .pointer (some ⟨g, 0, none⟩) := by rw [ha]; kernel_rfl
   exact event_step rfl (run_move e0) (hK _ _ ⟨v7, .pointer (some ⟨g, 0, none⟩), v9, v10, v11, v12, v13, v14, v15, v16, v17, v18, v19, v20, v21, v22, v23, v3, by rw [ha]; kernel_rfl, ⟨hF.d, hF.f0, (fun _ => rfl), hF.f2, hF.f3, hF.f4, hF.f5, hF.f6, hF.f7, hF.f8, hF.f9, hF.f10, hF.f11, hF.f12, hF.f13, hF.f14, hF.f15, hF.f16, hF.f17⟩⟩)
  ·refine ⟨_, rfl, fun Q K L a w hL hdep hI hK => ?_⟩
   replace hdep : ∀ d ∈ ([] : List Nat), L d = true := hdep
   obtain ⟨v7, v8, v9, v10, v11, v12, v13, v14, v15, v16, v17, v18, v19, v20, v21, v22, v23, v3, ha, hF⟩ := hI
   exact event_step rfl (run_row3 rfl rfl rfl) (hK _ _ ⟨.slice (some ⟨w.heap.size, 0, none⟩) 3 3, v8, v9, v10, v11, v12, v13, v14, v15, v16, v17, v18, v19, v20, v21, v22, v23, v3, by rw [ha]; kernel_rfl, ⟨(hF.d.alloc _), (fun _ _ => RowV.new _ w [8, 8, 12] 3 rfl hF.d.keep.1), hF.f1, hF.f2, (fun h1 h2 => (hF.f3 h1 h2).keep (KeptOn.alloc _ w _)), hF.f4, hF.f5, hF.f6, hF.f7, hF.f8, hF.f9, hF.f10, (fun h1 h2 => (hF.f11 h1 h2).keep (KeptOn.alloc _ w _)), hF.f12, hF.f13, (fun h1 h2 => (hF.f14 h1 h2).keep (KeptOn.alloc _ w _)), hF.f15, hF.f16, (fun h1 => (hF.f17 h1).keep (KeptOn.alloc _ w _))⟩⟩)
 case done =>
  clear HD HD1 HD2
  intro L a w' hL hI
  obtain ⟨v7, v8, v9, v10, v11, v12, v13, v14, v15, v16, v17, v18, v19, v20, v21, v22, v23, v3, rfl, hF⟩ := hI
  obtain ⟨gf, x1, x2, x3, x4, rfl, hgf, hbf⟩ := hF.f17 (hL 17)
  have hd := hF.d
  rw [show cntL L [2, 6, 9, 13] = 4 by simp [cntL, hL]] at hd
  have hb1 : Below w.heap.size w W1 := by rw [← hW1]; exact zC (Below.refl _ _) _
  have HK := zA (show FrK w0 w w' g c (m + 8) w.heap.size gf (.slice none 0 0) [] from
   ⟨⟨hd.cur, hd.below, (KeepBut.of_below hb1 g none).trans hd.keep (.inl rfl)⟩, (hd.keep.2 _ (by omega) (by omega) (by simp)).trans k1, ⟨x1, x2, x3, x4, hbf⟩, Nat.le_refl _, by omega, by omega, Kd.R_nil _ _ _ _ _⟩)
  clear hF hL hd hbf k1 hz hgs hW1 hb1 HW1
  generalize w.heap.size = gr at HK ⊢
  dsimp only [drFrA]
  refine next_ _ _ ?_
  clear next_
  clear x1 x2 x3 x4
  have hm2 : m + 100 ≤ 1000000000000 := by omega
  clear hm hgf
  go_upto_region 3 with (fail)
  go_wp2_with (first | (go_at_call 51; go_loud (refine (HK.out.d.cur.pick HK.out.d.below (by omega) _).mono ?_; rintro e w2 ⟨x, rfl, hx, hD⟩; replace HK := zA (HK.out.kept (HK.out.d.then_ hD) (KeptOn.of_keep hD.keep hgw)); clear hD; obtain ⟨k0, rfl⟩ : ∃ n : Nat, x = (n : Int) := ⟨x.toNat, by omega⟩; have hk0 : k0 < 4 := (by omega); clear hx)))
  trace_state
  go_loopw [4, 5] (fun v4 v5 w' => ∃ (n : Nat) (al : Int) (v : Value) (l : List S102), v5 = .int .i64 n ∧ v4 = .int .i64 al ∧ n + l.length = 1 + k0 ∧ Aside0 (FrK w0 w w' g c (m + 10 + 12 * l.length) gr gf v l)) (fun v4 v5 w' => (intOf v5).toNat)
  case atStart => exact ⟨1 + k0, 0, _, [], by go_num, rfl, rfl, ⟨HK.out.kept (HK.out.d.up (by simp)) (KeptOn.refl _ _)⟩⟩
  case round =>
   clear HK
   obtain ⟨n, al, v, l, rfl, rfl, hn, HK⟩ := hrel
   have hl4 : l.length ≤ 4 := by omega
   by_cases hpos : 0 < n
   ·obtain ⟨n, rfl⟩ : ∃ n', n = n' + 1 := ⟨n - 1, by omega⟩
    obtain ⟨M, hM⟩ : ∃ M, M = m + 10 + 12 * l.length := ⟨_, rfl⟩
    rw [← hM] at HK
    have hM2 : M + 12 ≤ 1000000000000 := by omega
    have HM := zA hM
    have HN := zA hn
    have hn4 : n ≤ 4 := by omega
    clear hM hn
    go_upto_region 7 with (first | (go_at_call 51; refine (HK.out.d.cur.pick HK.out.d.below (by omega) _).mono ?_; rintro e w2 ⟨x, rfl, hx, hD⟩; replace HK := zA (HK.out.kept (HK.out.d.then_ hD) (KeptOn.of_keep hD.keep hgw)); clear hD hx))
    refine gen_world (P := fun W => Aside0 (FrX w0 w W g c (M + 6) gr gf w2.heap.size v l)) ⟨(HK.out.box _ _ _ _).up (by omega)⟩ (fun W3 HX => ?_)
    clear HK
    generalize w2.heap.size = gx at HX ⊢
    go_upto_region 13 with (first | (go_at_call 49; go_loud (refine (HX.out.k.d.cur.once HX.out.k.d.below (by omega) _).mono ?_; rintro e w2 ⟨b, rfl, hD⟩; replace HX := zA (HX.out.kept (HX.out.k.d.then_ hD) (KeptOn.of_keep hD.keep hgw)); clear hD; obtain ⟨y1, y2, y3, y4, hbx⟩ := HX.out.x; have q0 := zK hbx 0; have q1 := zK hbx 1; have q2 := zK hbx 2; have q3 := zK hbx 3; have z1 := zJ hbx 1; have z2 := zJ hbx 2; simp at q0 q1 q2 q3; clear hbx)) | (go_at_call 51; go_loud (refine (HX.out.k.d.cur.pick HX.out.k.d.below (by omega) _).mono ?_; rintro e w2 ⟨x, rfl, hx, hD⟩; replace HX := zA (HX.out.kept (HX.out.k.d.then_ hD) (KeptOn.of_keep hD.keep hgw)); clear hD hx q0 q1 q2 q3 z1 z2; obtain ⟨y1, y2, y3, y4, hbx⟩ := HX.out.x; have q0 := zK hbx 0; have q1 := zK hbx 1; have q2 := zK hbx 2; have q3 := zK hbx 3; have z1 := zJ hbx 1; have z2 := zJ hbx 2; simp at q0 q1 q2 q3; clear hbx)))
    all_goals
     refine gen_world (P := fun W => Aside0 (FrX w0 w W g c (M + 10) gr gf gx v l)) ⟨by repeat (first | exact HX.out.up (by omega) | refine FrX.put ?_ hgw _ (by decide) _)⟩ (fun W3 HZ => ?_)
     clear HX q0 q1 q2 q3 z1 z2
     have HX := HZ
     clear HZ
     obtain ⟨A, cp, rfl⟩ := Kd.R_slice HX.out.row
     obtain ⟨y1, y2, y3, y4, hbx⟩ := HX.out.x
     obtain ⟨x1, x2, x3, x4, hbf⟩ := HX.out.k.f
     have hgx := blk_lt hbx
     have q0 := zK hbx 0
     have q1 := zK hbx 1
     have q2 := zK hbx 2
     have q3 := zK hbx 3
     have q5 := zK hbf 4
     simp at q0 q1 q2 q3 q5
     have HF := zA hbf
     clear hbx hbf
     go_wp2_with (first | ((with_reducible refine gate_builtin (b := .append) (xs := #[.tmp 66, .tmp 68]) rfl ?_); at_builtin; go_loud (refine Kd.R_append k102 (w0 := W3) w.heap.size rfl (.tmp 66) (.tmp 68) 24 102 (.agg #[.int .i64 0, .int .i64 0, .int .i64 0, .int .i64 0]) 32 rfl Try.underlying24 info102 rfl (by decide) (by omega) (.slice A l.length cp) l ⟨y1, y2, y3, y4⟩ [.int .i64 y1, .int .i64 y2, .int .i64 y3, .int .i64 y4] (fun k => k ≠ gx) (fun _ => False) rfl rfl (k102_mkM _ _ _ _) (fun _ hk => hk.elim) (fun k hk => by omega) HX.out.row (Below.refl _ _) HX.out.k.d.keep.1 (by omega) ?_; intro v69 w4 ho hb hg hat; obtain ⟨A4, c4, e4⟩ := Kd.R_slice ho; subst e4; rw [zX, List.length_singleton] at ho; have z4 := zJ (blk_grown HF.out hg (Kd.R_ne HX.out.row HF.out (by decide))) 4; have q9 := zK (blk_grown HF.out hg (Kd.R_ne HX.out.row HF.out (by decide))) 4; simp at q9; replace HX := zA (HX.out.push hgw ho hg); clear ho hb hg hat q0 q1 q2 q3 q5)))
     go_roundw
     case rel => exact ⟨n, _, _, _, by go_num, rfl, by have := HN.out; simp; omega, ⟨HX.out.kept (HX.out.d.up (by have := HM.out; simp; omega)) (KeptOn.refl _ _)⟩⟩
     case measure => simp [intOf]
   ·obtain rfl : n = 0 := by omega
    obtain ⟨A, cp, rfl⟩ := Kd.R_slice HK.out.row
    obtain ⟨x1, x2, x3, x4, hbf⟩ := HK.out.f
    have q0 := zK hbf 0
    have q1 := zK hbf 1
    have q2 := zK hbf 2
    have q3 := zK hbf 3
    have q4 := zK hbf 4
    have hbr := HK.out.r
    have r0 := zK hbr 0
    have r1 := zK hbr 1
    have r2 := zK hbr 2
    have r3 := zK hbr 3
    have r4 := zK hbr 4
    have z0 := zJ hbr 0
    have z1 := zJ hbr 1
    have z2 := zJ hbr 2
    have z3 := zJ hbr 3
    have z4 := zJ hbr 4
    simp at q0 q1 q2 q3 q4 r0 r1 r2 r3 r4
    have HN := zA hn
    clear hbf hbr hn
    go_wp2
    obtain ⟨f1, f2, f3⟩ := HK.out.fin hgw x1 x2 x3 x4
    refine bodyPost_ret (results_cell_row rfl _ _ gr 26 #[.int .i64 x1, .int .i64 x2, .int .i64 x3, .int .i64 x4, .slice A l.length cp] (0, 0) _ rfl (by exact f1) Try.underlying26 rfl (by kernel_rfl)) rfl ?_
    have hn := HN.out
    exact ⟨x1, x2, x3, x4, _, l, rfl, f3, by omega, by omega, f2.up (by omega)⟩
end Go.Proofs.Ytilimpjcdeeaiaa.G

