import Derived.Laws.CopyOwn
import Derived.Deep.RegionLaw
import Derived.StillTailTactics
import Derived.Test.YtilimpjcdeeaiaaGreatMFnExactSameStream1
set_option linter.unusedVariables false
set_option linter.unusedSimpArgs false
namespace Go.Proofs.YtilimpjcdeeaiaaGreat.G
open Go.RowKit Go.Proofs.YtilimpjcdeeaiaaGreatW.PrintWords Go.Proofs.YtilimpjcdeeaiaaGreatW.PrintLast Go.Proofs.YtilimpjcdeeaiaaGreatW.PrintMore
attribute [local go_sem] max2_int min2_int max_two min_two max_three min_three max_four min_four   -- for this text's walks alone
def spec_l04Most.l0 : Nat → Int → Int → Int → Int → Int → Int → Int → List (S53) → Option (Int × Int)
 | 0, _, _, _, _, _, _, _, _ => none
 | k + 1, x4, x5, x6, x136000, x136001, x136002, x136003, x136004 => if x6 < (x136004.length : Int) then (if 0 ≤ x6 then (if ((rd_T53 x136004 x6).f1) > x4 then (if ((rd_T53 x136004 x6).f2) > x5 then (spec_l04Most.l0 k ((rd_T53 x136004 x6).f1) ((rd_T53 x136004 x6).f2) (wrap64 (x6 + 1)) x136000 x136001 x136002 x136003 x136004) else (spec_l04Most.l0 k ((rd_T53 x136004 x6).f1) x5 (wrap64 (x6 + 1)) x136000 x136001 x136002 x136003 x136004)) else (if ((rd_T53 x136004 x6).f2) > x5 then (spec_l04Most.l0 k x4 ((rd_T53 x136004 x6).f2) (wrap64 (x6 + 1)) x136000 x136001 x136002 x136003 x136004) else (spec_l04Most.l0 k x4 x5 (wrap64 (x6 + 1)) x136000 x136001 x136002 x136003 x136004))) else (none)) else (some (x4, x5))
def spec_l04Most.f (k : Nat) (a0_0 : Int) (a0_1 : Int) (a0_2 : Int) (a0_3 : Int) (l0_4 : List (S53)) : Option (Int × Int) := spec_l04Most.l0 k 1 1 0 a0_0 a0_1 a0_2 a0_3 l0_4
set_option maxHeartbeats 8000000 in
set_option maxRecDepth 100000 in
theorem spec_l04Most.calls (k : Nat) (a0_0 : Int) (a0_1 : Int) (a0_2 : Int) (a0_3 : Int) (A0_4 : Option Addr) (c0_4 : Nat) (l0_4 : List (S53)) (r1 : Int) (r2 : Int) (w : World) (hr0_4 : Kd.C k53 w A0_4 l0_4.length l0_4) (hc0_4 : l0_4.length ≤ c0_4) (h : spec_l04Most.f k a0_0 a0_1 a0_2 a0_3 l0_4 = some (r1, r2)) :
  Calls Tryz.prog 86 #[.agg #[.int .i64 a0_0, .int .i64 a0_1, .int .i64 a0_2, .int .i64 a0_3, .slice A0_4 l0_4.length c0_4]] w fun e w' => e = .returned (.tuple #[.int .i64 r1, .int .i64 r2]) ∧ Below w.heap.size w w' := by
 have hu37 := Tryz.underlying37
 have HR0_4 := zA hr0_4
 have HC0_4 := zA hc0_4
 clear hr0_4 hc0_4
 have HB := zA (Below.refl w.heap.size w)
 have H : (spec_l04Most.l0 k 1 1 0 a0_0 a0_1 a0_2 a0_3 l0_4) = some (r1, r2) := h
 clear h
 have H' := zA H
 clear H
 go_enter Tryz.func86, Tryz.ntmps86
 go_wp2_with (first | ((with_reducible refine gate_dst (N := 1) rfl ?_); refine nxX (N := 1) (cs := #[.int .i64 a0_0, .int .i64 a0_1, .int .i64 a0_2, .int .i64 a0_3, .slice A0_4 l0_4.length c0_4]) (t := 37) ?_; intro gb135 hg w2 hbox hb; have n0_ := nxH hb HB; have n1_ := zA (hbox); clear HB; have HB := n0_; have BK135 := n1_; clear n0_ n1_ ; clear hb hbox hg))
 go_loopg [4, 5, 6] k (fun kq v4 v5 v6 w' => ∃ (x4_1 : Int) (x5_1 : Int) (x6_1 : Int), v4 = .int .i64 x4_1 ∧ v5 = .int .i64 x5_1 ∧ v6 = .int .i64 x6_1 ∧ Aside0 (spec_l04Most.l0 kq x4_1 x5_1 x6_1 a0_0 a0_1 a0_2 a0_3 l0_4 = some (r1, r2)) ∧ Aside0 (kq ≤ k) ∧ Aside0 (w'.heap[gb135]? = some (.cells #[.int .i64 a0_0, .int .i64 a0_1, .int .i64 a0_2, .int .i64 a0_3, (.slice A0_4 l0_4.length c0_4)] 37 (0, 0))) ∧ Aside0 (Below w.heap.size w w'))
 case atStart => exact ⟨(1), (1), (0), rfl, rfl, rfl, H', ⟨Nat.le_refl _⟩, ⟨BK135.out⟩, ⟨nxD HB⟩⟩
 case round =>
  clear H'
  obtain ⟨x4_1, x5_1, x6_1, rfl, rfl, rfl, HA, HK1, BK135, HB⟩ := hrel
  cases gk with
  | zero => exact absurd HA.out (by simp [spec_l04Most.l0])
  | succ k1 =>
   have H := HA.out
   clear HA
   simp only [spec_l04Most.l0] at H
   by_cases c3 : x6_1 < (l0_4.length : Int)
   ·rw [if_pos c3] at H
    have c3b0 := zT c3
    clear c3
    by_cases c4 : 0 ≤ x6_1
    ·rw [if_pos c4] at H
     have c4b0 := zT c4
     clear c4
     by_cases c5 : ((rd_T53 l0_4 x6_1).f1) > x4_1
     ·rw [if_pos c5] at H
      have c5b0 := zT c5
      clear c5
      by_cases c6 : ((rd_T53 l0_4 x6_1).f2) > x5_1
      ·rw [if_pos c6] at H
       have c6b0 := zT c6
       clear c6
       have H' := zA H
       clear H
       obtain ⟨hcz7_0, hcz7_1, hcz7_2, hcz7_3, hcz7_4⟩ := cz5 BK135
       have p136 : 0 ≤ (x6_1 : Int) := zI (by first | (with_reducible assumption) | assumption)
       have q136 : x6_1 < (l0_4.length : Int) := zI (by first | (with_reducible assumption) | assumption)
       obtain ⟨ad136, e136, hx136_0, hx136_1, hx136_2, hx136_3⟩ := at_T53 HR0_4.out x6_1 p136 q136
       cases e136
       replace hx136_0 := (HB.out.cell (World.block_lt_of_cell? w _ hx136_0)).trans hx136_0
       replace hx136_1 := (HB.out.cell (World.block_lt_of_cell? w _ hx136_1)).trans hx136_1
       replace hx136_2 := (HB.out.cell (World.block_lt_of_cell? w _ hx136_2)).trans hx136_2
       replace hx136_3 := (HB.out.cell (World.block_lt_of_cell? w _ hx136_3)).trans hx136_3
       replace p136 := eq_true p136
       replace q136 := eq_true q136
       have p137 : 0 ≤ (x6_1 : Int) := zI (by first | (with_reducible assumption) | assumption)
       have q137 : x6_1 < (l0_4.length : Int) := zI (by first | (with_reducible assumption) | assumption)
       obtain ⟨ad137, e137, hx137_0, hx137_1, hx137_2, hx137_3⟩ := at_T53 HR0_4.out x6_1 p137 q137
       obtain rfl : ad136 = ad137 := (by injection e137)
       replace hx137_0 := (HB.out.cell (World.block_lt_of_cell? w _ hx137_0)).trans hx137_0
       replace hx137_1 := (HB.out.cell (World.block_lt_of_cell? w _ hx137_1)).trans hx137_1
       replace hx137_2 := (HB.out.cell (World.block_lt_of_cell? w _ hx137_2)).trans hx137_2
       replace hx137_3 := (HB.out.cell (World.block_lt_of_cell? w _ hx137_3)).trans hx137_3
       replace p137 := eq_true p137
       replace q137 := eq_true q137
       have p138 : 0 ≤ (x6_1 : Int) := zI (by first | (with_reducible assumption) | assumption)
       have q138 : x6_1 < (l0_4.length : Int) := zI (by first | (with_reducible assumption) | assumption)
       obtain ⟨ad138, e138, hx138_0, hx138_1, hx138_2, hx138_3⟩ := at_T53 HR0_4.out x6_1 p138 q138
       obtain rfl : ad136 = ad138 := (by injection e138)
       replace hx138_0 := (HB.out.cell (World.block_lt_of_cell? w _ hx138_0)).trans hx138_0
       replace hx138_1 := (HB.out.cell (World.block_lt_of_cell? w _ hx138_1)).trans hx138_1
       replace hx138_2 := (HB.out.cell (World.block_lt_of_cell? w _ hx138_2)).trans hx138_2
       replace hx138_3 := (HB.out.cell (World.block_lt_of_cell? w _ hx138_3)).trans hx138_3
       replace p138 := eq_true p138
       replace q138 := eq_true q138
       have p139 : 0 ≤ (x6_1 : Int) := zI (by first | (with_reducible assumption) | assumption)
       have q139 : x6_1 < (l0_4.length : Int) := zI (by first | (with_reducible assumption) | assumption)
       obtain ⟨ad139, e139, hx139_0, hx139_1, hx139_2, hx139_3⟩ := at_T53 HR0_4.out x6_1 p139 q139
       obtain rfl : ad136 = ad139 := (by injection e139)
       replace hx139_0 := (HB.out.cell (World.block_lt_of_cell? w _ hx139_0)).trans hx139_0
       replace hx139_1 := (HB.out.cell (World.block_lt_of_cell? w _ hx139_1)).trans hx139_1
       replace hx139_2 := (HB.out.cell (World.block_lt_of_cell? w _ hx139_2)).trans hx139_2
       replace hx139_3 := (HB.out.cell (World.block_lt_of_cell? w _ hx139_3)).trans hx139_3
       replace p139 := eq_true p139
       replace q139 := eq_true q139
       go_wp2
       go_roundg k1
       case measure => have := HK1.out; omega
       case rel => exact ⟨((rd_T53 l0_4 x6_1).f1), ((rd_T53 l0_4 x6_1).f2), (wrap64 (x6_1 + 1)), rfl, rfl, rfl, H', ⟨by have := HK1.out; omega⟩, ⟨BK135.out⟩, ⟨nxD HB⟩⟩
      ·rw [if_neg c6] at H
       have c6b0 := decide_eq_false c6
       clear c6
       have H' := zA H
       clear H
       obtain ⟨hcz8_0, hcz8_1, hcz8_2, hcz8_3, hcz8_4⟩ := cz5 BK135
       have p136 : 0 ≤ (x6_1 : Int) := zI (by first | (with_reducible assumption) | assumption)
       have q136 : x6_1 < (l0_4.length : Int) := zI (by first | (with_reducible assumption) | assumption)
       obtain ⟨ad136, e136, hx136_0, hx136_1, hx136_2, hx136_3⟩ := at_T53 HR0_4.out x6_1 p136 q136
       cases e136
       replace hx136_0 := (HB.out.cell (World.block_lt_of_cell? w _ hx136_0)).trans hx136_0
       replace hx136_1 := (HB.out.cell (World.block_lt_of_cell? w _ hx136_1)).trans hx136_1
       replace hx136_2 := (HB.out.cell (World.block_lt_of_cell? w _ hx136_2)).trans hx136_2
       replace hx136_3 := (HB.out.cell (World.block_lt_of_cell? w _ hx136_3)).trans hx136_3
       replace p136 := eq_true p136
       replace q136 := eq_true q136
       have p137 : 0 ≤ (x6_1 : Int) := zI (by first | (with_reducible assumption) | assumption)
       have q137 : x6_1 < (l0_4.length : Int) := zI (by first | (with_reducible assumption) | assumption)
       obtain ⟨ad137, e137, hx137_0, hx137_1, hx137_2, hx137_3⟩ := at_T53 HR0_4.out x6_1 p137 q137
       obtain rfl : ad136 = ad137 := (by injection e137)
       replace hx137_0 := (HB.out.cell (World.block_lt_of_cell? w _ hx137_0)).trans hx137_0
       replace hx137_1 := (HB.out.cell (World.block_lt_of_cell? w _ hx137_1)).trans hx137_1
       replace hx137_2 := (HB.out.cell (World.block_lt_of_cell? w _ hx137_2)).trans hx137_2
       replace hx137_3 := (HB.out.cell (World.block_lt_of_cell? w _ hx137_3)).trans hx137_3
       replace p137 := eq_true p137
       replace q137 := eq_true q137
       have p138 : 0 ≤ (x6_1 : Int) := zI (by first | (with_reducible assumption) | assumption)
       have q138 : x6_1 < (l0_4.length : Int) := zI (by first | (with_reducible assumption) | assumption)
       obtain ⟨ad138, e138, hx138_0, hx138_1, hx138_2, hx138_3⟩ := at_T53 HR0_4.out x6_1 p138 q138
       obtain rfl : ad136 = ad138 := (by injection e138)
       replace hx138_0 := (HB.out.cell (World.block_lt_of_cell? w _ hx138_0)).trans hx138_0
       replace hx138_1 := (HB.out.cell (World.block_lt_of_cell? w _ hx138_1)).trans hx138_1
       replace hx138_2 := (HB.out.cell (World.block_lt_of_cell? w _ hx138_2)).trans hx138_2
       replace hx138_3 := (HB.out.cell (World.block_lt_of_cell? w _ hx138_3)).trans hx138_3
       replace p138 := eq_true p138
       replace q138 := eq_true q138
       go_wp2
       go_roundg k1
       case measure => have := HK1.out; omega
       case rel => exact ⟨((rd_T53 l0_4 x6_1).f1), (x5_1), (wrap64 (x6_1 + 1)), rfl, rfl, rfl, H', ⟨by have := HK1.out; omega⟩, ⟨BK135.out⟩, ⟨nxD HB⟩⟩
     ·rw [if_neg c5] at H
      have c5b0 := decide_eq_false c5
      clear c5
      by_cases c9 : ((rd_T53 l0_4 x6_1).f2) > x5_1
      ·rw [if_pos c9] at H
       have c9b0 := zT c9
       clear c9
       have H' := zA H
       clear H
       obtain ⟨hcz10_0, hcz10_1, hcz10_2, hcz10_3, hcz10_4⟩ := cz5 BK135
       have p136 : 0 ≤ (x6_1 : Int) := zI (by first | (with_reducible assumption) | assumption)
       have q136 : x6_1 < (l0_4.length : Int) := zI (by first | (with_reducible assumption) | assumption)
       obtain ⟨ad136, e136, hx136_0, hx136_1, hx136_2, hx136_3⟩ := at_T53 HR0_4.out x6_1 p136 q136
       cases e136
       replace hx136_0 := (HB.out.cell (World.block_lt_of_cell? w _ hx136_0)).trans hx136_0
       replace hx136_1 := (HB.out.cell (World.block_lt_of_cell? w _ hx136_1)).trans hx136_1
       replace hx136_2 := (HB.out.cell (World.block_lt_of_cell? w _ hx136_2)).trans hx136_2
       replace hx136_3 := (HB.out.cell (World.block_lt_of_cell? w _ hx136_3)).trans hx136_3
       replace p136 := eq_true p136
       replace q136 := eq_true q136
       have p140 : 0 ≤ (x6_1 : Int) := zI (by first | (with_reducible assumption) | assumption)
       have q140 : x6_1 < (l0_4.length : Int) := zI (by first | (with_reducible assumption) | assumption)
       obtain ⟨ad140, e140, hx140_0, hx140_1, hx140_2, hx140_3⟩ := at_T53 HR0_4.out x6_1 p140 q140
       obtain rfl : ad136 = ad140 := (by injection e140)
       replace hx140_0 := (HB.out.cell (World.block_lt_of_cell? w _ hx140_0)).trans hx140_0
       replace hx140_1 := (HB.out.cell (World.block_lt_of_cell? w _ hx140_1)).trans hx140_1
       replace hx140_2 := (HB.out.cell (World.block_lt_of_cell? w _ hx140_2)).trans hx140_2
       replace hx140_3 := (HB.out.cell (World.block_lt_of_cell? w _ hx140_3)).trans hx140_3
       replace p140 := eq_true p140
       replace q140 := eq_true q140
       have p141 : 0 ≤ (x6_1 : Int) := zI (by first | (with_reducible assumption) | assumption)
       have q141 : x6_1 < (l0_4.length : Int) := zI (by first | (with_reducible assumption) | assumption)
       obtain ⟨ad141, e141, hx141_0, hx141_1, hx141_2, hx141_3⟩ := at_T53 HR0_4.out x6_1 p141 q141
       obtain rfl : ad136 = ad141 := (by injection e141)
       replace hx141_0 := (HB.out.cell (World.block_lt_of_cell? w _ hx141_0)).trans hx141_0
       replace hx141_1 := (HB.out.cell (World.block_lt_of_cell? w _ hx141_1)).trans hx141_1
       replace hx141_2 := (HB.out.cell (World.block_lt_of_cell? w _ hx141_2)).trans hx141_2
       replace hx141_3 := (HB.out.cell (World.block_lt_of_cell? w _ hx141_3)).trans hx141_3
       replace p141 := eq_true p141
       replace q141 := eq_true q141
       go_wp2
       go_roundg k1
       case measure => have := HK1.out; omega
       case rel => exact ⟨(x4_1), ((rd_T53 l0_4 x6_1).f2), (wrap64 (x6_1 + 1)), rfl, rfl, rfl, H', ⟨by have := HK1.out; omega⟩, ⟨BK135.out⟩, ⟨nxD HB⟩⟩
      ·rw [if_neg c9] at H
       have c9b0 := decide_eq_false c9
       clear c9
       have H' := zA H
       clear H
       obtain ⟨hcz11_0, hcz11_1, hcz11_2, hcz11_3, hcz11_4⟩ := cz5 BK135
       have p136 : 0 ≤ (x6_1 : Int) := zI (by first | (with_reducible assumption) | assumption)
       have q136 : x6_1 < (l0_4.length : Int) := zI (by first | (with_reducible assumption) | assumption)
       obtain ⟨ad136, e136, hx136_0, hx136_1, hx136_2, hx136_3⟩ := at_T53 HR0_4.out x6_1 p136 q136
       cases e136
       replace hx136_0 := (HB.out.cell (World.block_lt_of_cell? w _ hx136_0)).trans hx136_0
       replace hx136_1 := (HB.out.cell (World.block_lt_of_cell? w _ hx136_1)).trans hx136_1
       replace hx136_2 := (HB.out.cell (World.block_lt_of_cell? w _ hx136_2)).trans hx136_2
       replace hx136_3 := (HB.out.cell (World.block_lt_of_cell? w _ hx136_3)).trans hx136_3
       replace p136 := eq_true p136
       replace q136 := eq_true q136
       have p140 : 0 ≤ (x6_1 : Int) := zI (by first | (with_reducible assumption) | assumption)
       have q140 : x6_1 < (l0_4.length : Int) := zI (by first | (with_reducible assumption) | assumption)
       obtain ⟨ad140, e140, hx140_0, hx140_1, hx140_2, hx140_3⟩ := at_T53 HR0_4.out x6_1 p140 q140
       obtain rfl : ad136 = ad140 := (by injection e140)
       replace hx140_0 := (HB.out.cell (World.block_lt_of_cell? w _ hx140_0)).trans hx140_0
       replace hx140_1 := (HB.out.cell (World.block_lt_of_cell? w _ hx140_1)).trans hx140_1
       replace hx140_2 := (HB.out.cell (World.block_lt_of_cell? w _ hx140_2)).trans hx140_2
       replace hx140_3 := (HB.out.cell (World.block_lt_of_cell? w _ hx140_3)).trans hx140_3
       replace p140 := eq_true p140
       replace q140 := eq_true q140
       go_wp2
       go_roundg k1
       case measure => have := HK1.out; omega
       case rel => exact ⟨(x4_1), (x5_1), (wrap64 (x6_1 + 1)), rfl, rfl, rfl, H', ⟨by have := HK1.out; omega⟩, ⟨BK135.out⟩, ⟨nxD HB⟩⟩
    ·rw [if_neg c4] at H
     exact absurd H (by simp)
   ·rw [if_neg c3] at H
    have c3b0 := decide_eq_false c3
    clear c3
    simp only [Option.some.injEq, Prod.mk.injEq] at H
    obtain ⟨rfl, rfl⟩ := H
    obtain ⟨hcz12_0, hcz12_1, hcz12_2, hcz12_3, hcz12_4⟩ := cz5 BK135
    go_wp2
    go_ret2
    exact ⟨rfl, nxD HB⟩
end Go.Proofs.YtilimpjcdeeaiaaGreat.G


namespace Go.Proofs.YtilimpjcdeeaiaaGreat.G
open Go.RowKit Go.Proofs.YtilimpjcdeeaiaaGreatW.PrintWords Go.Proofs.YtilimpjcdeeaiaaGreatW.PrintLast Go.Proofs.YtilimpjcdeeaiaaGreatW.PrintMore
attribute [local go_sem] max2_int min2_int max_two min_two max_three min_three max_four min_four   -- for this text's walks alone
def spec_l04Up.f (a0 : Int) (a1 : Int) : Option (Int) := if a1 = 0 then (none) else (some (wrap64 (Int.tdiv (wrap64 ((wrap64 (a0 + a1)) - 1)) a1)))
set_option maxHeartbeats 8000000 in
set_option maxRecDepth 100000 in
theorem spec_l04Up.calls (a0 : Int) (a1 : Int) (r : Int) (w : World) (h : spec_l04Up.f a0 a1 = some r) :
  Calls Tryz.prog 87 #[.int .i64 a0, .int .i64 a1] w fun e w' => e = .returned (.int .i64 r) ∧ Drawn0 w w' := by
 have H : (if a1 = 0 then (none) else (some (wrap64 (Int.tdiv (wrap64 ((wrap64 (a0 + a1)) - 1)) a1)))) = some r := h
 clear h
 by_cases c3 : a1 = 0
 ·rw [if_pos c3] at H
  exact absurd H (by simp)
 rw [if_neg c3] at H
 have c3b0 : (a1 == 0) = false := beq_eq_false_iff_ne.mpr c3
 have c3b1 : (a1 != 0) = true := bne_iff_ne.mpr c3
 obtain rfl := Option.some.inj H
 go_enter Tryz.func87, Tryz.ntmps87
 go_wp2
 go_ret
 exact ⟨by first | rfl | (simp; done) | (simp [*]; done), by repeat (first | exact Drawn0.refl _ | apply Drawn0.step)⟩
end Go.Proofs.YtilimpjcdeeaiaaGreat.G


namespace Go.Proofs.YtilimpjcdeeaiaaGreat.G
open Go.RowKit Go.Proofs.YtilimpjcdeeaiaaGreatW.PrintWords Go.Proofs.YtilimpjcdeeaiaaGreatW.PrintLast Go.Proofs.YtilimpjcdeeaiaaGreatW.PrintMore
attribute [local go_sem] max2_int min2_int max_two min_two max_three min_three max_four min_four   -- for this text's walks alone
def spec_l04Units.f (k : Nat) (a0_0 : Int) (a0_1 : Int) (a0_2 : Int) (a0_3 : Int) (l0_4 : List (S53)) : Option (Int × Int) := (spec_l04Most.f k a0_0 a0_1 a0_2 a0_3 l0_4).bind fun bt143 => ((spec_l04Up.f a0_1 (wrap64 (8 * bt143.1))).bind fun t145 => ((spec_l04Up.f a0_2 (wrap64 (8 * bt143.2))).bind fun t146 => (some (t145, t146))))
set_option maxHeartbeats 8000000 in
set_option maxRecDepth 100000 in
theorem spec_l04Units.calls (k : Nat) (a0_0 : Int) (a0_1 : Int) (a0_2 : Int) (a0_3 : Int) (A0_4 : Option Addr) (c0_4 : Nat) (l0_4 : List (S53)) (r1 : Int) (r2 : Int) (w : World) (hr0_4 : Kd.C k53 w A0_4 l0_4.length l0_4) (hc0_4 : l0_4.length ≤ c0_4) (h : spec_l04Units.f k a0_0 a0_1 a0_2 a0_3 l0_4 = some (r1, r2)) :
  Calls Tryz.prog 73 #[.agg #[.int .i64 a0_0, .int .i64 a0_1, .int .i64 a0_2, .int .i64 a0_3, .slice A0_4 l0_4.length c0_4]] w fun e w' => e = .returned (.tuple #[.int .i64 r1, .int .i64 r2]) ∧ Below w.heap.size w w' := by
 have hu37 := Tryz.underlying37
 have HR0_4 := zA hr0_4
 have HC0_4 := zA hc0_4
 clear hr0_4 hc0_4
 have HB := zA (Below.refl w.heap.size w)
 have H : ((spec_l04Most.f k a0_0 a0_1 a0_2 a0_3 l0_4).bind fun bt143 => ((spec_l04Up.f a0_1 (wrap64 (8 * bt143.1))).bind fun t145 => ((spec_l04Up.f a0_2 (wrap64 (8 * bt143.2))).bind fun t146 => (some (t145, t146))))) = some (r1, r2) := h
 clear h
 replace H := Option.bind_eq_some_iff.mp H
 obtain ⟨⟨t143, t144⟩, A20, H⟩ := H
 try dsimp only at H
 have A2 := zA A20
 clear A20
 replace H := Option.bind_eq_some_iff.mp H
 obtain ⟨t145, A30, H⟩ := H
 try dsimp only at H
 have A3 := zA A30
 clear A30
 replace H := Option.bind_eq_some_iff.mp H
 obtain ⟨t146, A40, H⟩ := H
 try dsimp only at H
 have A4 := zA A40
 clear A40
 simp only [Option.some.injEq, Prod.mk.injEq] at H
 obtain ⟨rfl, rfl⟩ := H
 go_enter Tryz.func73, Tryz.ntmps73
 go_wp2_with (first | ((with_reducible refine gate_dst (N := 1) rfl ?_); refine nxX (N := 1) (cs := #[.int .i64 a0_0, .int .i64 a0_1, .int .i64 a0_2, .int .i64 a0_3, .slice A0_4 l0_4.length c0_4]) (t := 37) ?_; intro gb142 hg w5 hbox hb; have n0_ := nxH hb HB; have n1_ := zA (hbox); clear HB; have HB := n0_; have BK142 := n1_; clear n0_ n1_ ; clear hb hbox hg; obtain ⟨hcz6_0, hcz6_1, hcz6_2, hcz6_3, hcz6_4⟩ := cz5 BK142) | (go_at_call 86; (with_reducible refine (spec_l04Most.calls k a0_0 a0_1 a0_2 a0_3 _ _ l0_4 t143 t144 _ ?side1 ?side2 A2.out).mono ?_); (case side1 => exact nxC HR0_4 HB); (case side2 => exact HC0_4.out); rintro e w7 ⟨rfl, hb⟩; replace BK142 := nxB hb BK142; replace HB := nxH hb HB; (try clear hb); (try clear hb2); (try clear hk); (try clear hi); obtain ⟨hcz8_0, hcz8_1, hcz8_2, hcz8_3, hcz8_4⟩ := cz5 BK142))
 repeat (go_quiet (first | (go_at_call 87; (with_reducible refine (spec_l04Up.calls a0_1 (wrap64 (8 * t143)) t145 _ A3.out).mono ?_); rintro e w' ⟨rfl, ⟨nd, rfl⟩⟩; (try first | exact ⟨rfl, _, World.drewN_drewN _ _ _⟩ | exact ⟨rfl, _, Eq.trans (World.drewN_drewN _ _ _) (congrArg (World.drewN _) (Nat.add_assoc _ _ _))⟩)) | (go_at_call 87; (with_reducible refine (spec_l04Up.calls a0_2 (wrap64 (8 * t144)) t146 _ A4.out).mono ?_); rintro e w' ⟨rfl, ⟨nd, rfl⟩⟩; (try first | exact ⟨rfl, _, World.drewN_drewN _ _ _⟩ | exact ⟨rfl, _, Eq.trans (World.drewN_drewN _ _ _) (congrArg (World.drewN _) (Nat.add_assoc _ _ _))⟩))); try go_wp2_with (fail))
 go_ret2
 exact ⟨rfl, nxD HB⟩
end Go.Proofs.YtilimpjcdeeaiaaGreat.G


namespace Go.Proofs.YtilimpjcdeeaiaaGreat.G
open Go.RowKit Go.Proofs.YtilimpjcdeeaiaaGreatW.PrintWords Go.Proofs.YtilimpjcdeeaiaaGreatW.PrintLast Go.Proofs.YtilimpjcdeeaiaaGreatW.PrintMore
attribute [local go_sem] max2_int min2_int max_two min_two max_three min_three max_four min_four   -- for this text's walks alone
def spec_l04Blocks.f (k : Nat) (a0_0 : Int) (a0_1 : Int) (a0_2 : Int) (a0_3 : Int) (l0_4 : List (S53)) (a1 : Int) : Option (Int × Int) := (spec_l04Units.f k a0_0 a0_1 a0_2 a0_3 l0_4).bind fun bt148 => (if 0 ≤ a1 then (if a1 < (l0_4.length : Int) then (some (wrap64 (bt148.1 * ((rd_T53 l0_4 a1).f1)), wrap64 (bt148.2 * ((rd_T53 l0_4 a1).f2)))) else (none)) else (none))
set_option maxHeartbeats 8000000 in
set_option maxRecDepth 100000 in
theorem spec_l04Blocks.calls (k : Nat) (a0_0 : Int) (a0_1 : Int) (a0_2 : Int) (a0_3 : Int) (A0_4 : Option Addr) (c0_4 : Nat) (l0_4 : List (S53)) (a1 : Int) (r1 : Int) (r2 : Int) (w : World) (hr0_4 : Kd.C k53 w A0_4 l0_4.length l0_4) (hc0_4 : l0_4.length ≤ c0_4) (h : spec_l04Blocks.f k a0_0 a0_1 a0_2 a0_3 l0_4 a1 = some (r1, r2)) :
  Calls Tryz.prog 57 #[.agg #[.int .i64 a0_0, .int .i64 a0_1, .int .i64 a0_2, .int .i64 a0_3, .slice A0_4 l0_4.length c0_4], .int .i64 a1] w fun e w' => e = .returned (.tuple #[.int .i64 r1, .int .i64 r2]) ∧ Below w.heap.size w w' := by
 have hu37 := Tryz.underlying37
 have HR0_4 := zA hr0_4
 have HC0_4 := zA hc0_4
 clear hr0_4 hc0_4
 have HB := zA (Below.refl w.heap.size w)
 have H : ((spec_l04Units.f k a0_0 a0_1 a0_2 a0_3 l0_4).bind fun bt148 => (if 0 ≤ a1 then (if a1 < (l0_4.length : Int) then (some (wrap64 (bt148.1 * ((rd_T53 l0_4 a1).f1)), wrap64 (bt148.2 * ((rd_T53 l0_4 a1).f2)))) else (none)) else (none))) = some (r1, r2) := h
 clear h
 replace H := Option.bind_eq_some_iff.mp H
 obtain ⟨⟨t148, t149⟩, A30, H⟩ := H
 try dsimp only at H
 have A3 := zA A30
 clear A30
 by_cases c4 : 0 ≤ a1
 rotate_left
 ·rw [if_neg c4] at H
  exact absurd H (by simp)
 rw [if_pos c4] at H
 have c4b0 := zT c4
 clear c4
 by_cases c5 : a1 < (l0_4.length : Int)
 rotate_left
 ·rw [if_neg c5] at H
  exact absurd H (by simp)
 rw [if_pos c5] at H
 have c5b0 := zT c5
 clear c5
 simp only [Option.some.injEq, Prod.mk.injEq] at H
 obtain ⟨rfl, rfl⟩ := H
 go_enter Tryz.func57, Tryz.ntmps57
 go_wp2_with (first | ((with_reducible refine gate_dst (N := 2) rfl ?_); refine nxX (N := 2) (cs := #[.int .i64 a0_0, .int .i64 a0_1, .int .i64 a0_2, .int .i64 a0_3, .slice A0_4 l0_4.length c0_4]) (t := 37) ?_; intro gb147 hg w6 hbox hb; have n0_ := nxH hb HB; have n1_ := zA (hbox); clear HB; have HB := n0_; have BK147 := n1_; clear n0_ n1_ ; clear hb hbox hg; obtain ⟨hcz7_0, hcz7_1, hcz7_2, hcz7_3, hcz7_4⟩ := cz5 BK147) | (go_at_call 73; (with_reducible refine (spec_l04Units.calls k a0_0 a0_1 a0_2 a0_3 _ _ l0_4 t148 t149 _ ?side1 ?side2 A3.out).mono ?_); (case side1 => exact nxC HR0_4 HB); (case side2 => exact HC0_4.out); rintro e w8 ⟨rfl, hb⟩; replace BK147 := nxB hb BK147; replace HB := nxH hb HB; (try clear hb); (try clear hb2); (try clear hk); (try clear hi); obtain ⟨hcz9_0, hcz9_1, hcz9_2, hcz9_3, hcz9_4⟩ := cz5 BK147; have p150 : 0 ≤ (a1 : Int) := zI (by first | (with_reducible assumption) | assumption); have q150 : a1 < (l0_4.length : Int) := zI (by first | (with_reducible assumption) | assumption); obtain ⟨ad150, e150, hx150_0, hx150_1, hx150_2, hx150_3⟩ := at_T53 HR0_4.out a1 p150 q150; cases e150; replace hx150_0 := (HB.out.cell (World.block_lt_of_cell? w _ hx150_0)).trans hx150_0; replace hx150_1 := (HB.out.cell (World.block_lt_of_cell? w _ hx150_1)).trans hx150_1; replace hx150_2 := (HB.out.cell (World.block_lt_of_cell? w _ hx150_2)).trans hx150_2; replace hx150_3 := (HB.out.cell (World.block_lt_of_cell? w _ hx150_3)).trans hx150_3; replace p150 := eq_true p150; replace q150 := eq_true q150; have p151 : 0 ≤ (a1 : Int) := zI (by first | (with_reducible assumption) | assumption); have q151 : a1 < (l0_4.length : Int) := zI (by first | (with_reducible assumption) | assumption); obtain ⟨ad151, e151, hx151_0, hx151_1, hx151_2, hx151_3⟩ := at_T53 HR0_4.out a1 p151 q151; obtain rfl : ad150 = ad151 := (by injection e151); replace hx151_0 := (HB.out.cell (World.block_lt_of_cell? w _ hx151_0)).trans hx151_0; replace hx151_1 := (HB.out.cell (World.block_lt_of_cell? w _ hx151_1)).trans hx151_1; replace hx151_2 := (HB.out.cell (World.block_lt_of_cell? w _ hx151_2)).trans hx151_2; replace hx151_3 := (HB.out.cell (World.block_lt_of_cell? w _ hx151_3)).trans hx151_3; replace p151 := eq_true p151; replace q151 := eq_true q151))
 repeat (go_quiet (fail); try go_wp2_with (fail))
 go_ret2
 exact ⟨rfl, nxD HB⟩
end Go.Proofs.YtilimpjcdeeaiaaGreat.G


namespace Go.Proofs.YtilimpjcdeeaiaaGreat.G
open Go.RowKit Go.Proofs.YtilimpjcdeeaiaaGreatW.PrintWords Go.Proofs.YtilimpjcdeeaiaaGreatW.PrintLast Go.Proofs.YtilimpjcdeeaiaaGreatW.PrintMore
attribute [local go_sem] max2_int min2_int max_two min_two max_three min_three max_four min_four   -- for this text's walks alone
def spec_l05Nums.l0 : Nat → List Int → Int → Int → Int → Option (Bool)
 | 0, _, _, _, _ => none
 | k + 1, x0, x1, x2, x7 => if x7 < 64 then (if 0 ≤ x7 then (if x7 < (x0.length : Int) then ((spec_l01Between.f (rd x0 x7) x1 x2).bind fun t153 => (if t153 = true then (spec_l05Nums.l0 k x0 x1 x2 (wrap64 (x7 + 1))) else (some false))) else (none)) else (none)) else (some true)
def spec_l05Nums.f (k : Nat) (l0 : List Int) (a1 : Int) (a2 : Int) : Option (Bool) := if (l0.length : Int) = 64 then (spec_l05Nums.l0 k l0 a1 a2 0) else (some false)
set_option maxHeartbeats 8000000 in
set_option maxRecDepth 100000 in
theorem spec_l05Nums.calls (k : Nat) (A0 : Option Addr) (c0 : Nat) (l0 : List Int) (a1 : Int) (a2 : Int) (r : Bool) (w : World) (hr0 : Kd.C (Kd.int .i64) w A0 l0.length l0) (hc0 : l0.length ≤ c0) (h : spec_l05Nums.f k l0 a1 a2 = some r) :
  Calls Tryz.prog 62 #[.slice A0 l0.length c0, .int .i64 a1, .int .i64 a2] w fun e w' => e = .returned (.bool r) ∧ Drawn0 w w' := by
 have HR0 := zA hr0
 have HC0 := zA hc0
 clear hr0 hc0
 have H : (if (l0.length : Int) = 64 then (spec_l05Nums.l0 k l0 a1 a2 0) else (some false)) = some r := h
 clear h
 by_cases c4 : (l0.length : Int) = 64
 rotate_left
 ·rw [if_neg c4] at H
  have c4b0 : ((l0.length : Int) == 64) = false := beq_eq_false_iff_ne.mpr c4
  have c4b1 : ((l0.length : Int) != 64) = true := bne_iff_ne.mpr c4
  obtain rfl := Option.some.inj H
  go_enter Tryz.func62, Tryz.ntmps62
  go_wp2
  go_ret
  exact ⟨by first | rfl | (simp; done) | (simp [*]; done), by repeat (first | exact Drawn0.refl _ | apply Drawn0.step)⟩
 rw [if_pos c4] at H
 have c4b0 : ((l0.length : Int) == 64) = true := beq_iff_eq.mpr c4
 have c4b1 : ((l0.length : Int) != 64) = false := bne_eq_false_iff_eq.mpr c4
 clear c4
 have H' := zA H
 clear H
 go_enter Tryz.func62, Tryz.ntmps62
 go_wp2
 go_loopg [7] k (fun kq v7 w' => ∃ (x7_1 : Int), v7 = .int .i64 x7_1 ∧ Aside0 (spec_l05Nums.l0 kq l0 a1 a2 x7_1 = some r) ∧ Aside0 (kq ≤ k) ∧ Drawn0 w w')
 case atStart => exact ⟨(0), rfl, H', ⟨Nat.le_refl _⟩, by repeat (first | exact Drawn0.refl _ | apply Drawn0.step)⟩
 case round =>
  clear H'
  obtain ⟨x7_1, rfl, HA, HK1, ⟨m1, rfl⟩⟩ := hrel
  cases gk with
  | zero => exact absurd HA.out (by simp [spec_l05Nums.l0])
  | succ k1 =>
   have H := HA.out
   clear HA
   simp only [spec_l05Nums.l0] at H
   by_cases c5 : x7_1 < 64
   rotate_left
   ·rw [if_neg c5] at H
    have c5b0 := decide_eq_false c5
    clear c5
    obtain rfl := Option.some.inj H
    go_wp2
    go_ret
    exact ⟨by first | rfl | (simp; done) | (simp [*]; done), by repeat (first | exact Drawn0.refl _ | apply Drawn0.step)⟩
   rw [if_pos c5] at H
   have c5b0 := zT c5
   clear c5
   by_cases c6 : 0 ≤ x7_1
   rotate_left
   ·rw [if_neg c6] at H
    exact absurd H (by simp)
   rw [if_pos c6] at H
   have c6b0 := zT c6
   clear c6
   by_cases c7 : x7_1 < (l0.length : Int)
   rotate_left
   ·rw [if_neg c7] at H
    exact absurd H (by simp)
   rw [if_pos c7] at H
   have c7b0 := zT c7
   clear c7
   replace H := Option.bind_eq_some_iff.mp H
   obtain ⟨t153, A80, H⟩ := H
   try dsimp only at H
   have A8 := zA A80
   clear A80
   have HF9 := zA H
   clear H
   have p152 : 0 ≤ (x7_1 : Int) := zI (by first | (with_reducible assumption) | assumption)
   have q152 : x7_1 < (l0.length : Int) := zI (by first | (with_reducible assumption) | assumption)
   obtain ⟨ad152, e152, hx152_0⟩ := Kd.at_int HR0.out x7_1 p152 q152
   cases e152
   replace p152 := eq_true p152
   replace q152 := eq_true q152
   go_upto_if 22 with (first | ((with_reducible refine gate_callee (f := 38) rfl ?_); refine goesL_ (some 21) rfl rfl Tryz.func38 (by kernel_rfl) rfl #[.int .i64 (rd l0 x7_1), .int .i64 a1, .int .i64 a2] rfl (by (try simp only [zU, zV, zW]); first | done | rfl | (simp only [zR, zQ]; rfl)) ?_; (with_reducible refine (spec_l01Between.calls (rd l0 x7_1) a1 a2 t153 _ A8.out).mono ?_); rintro e w' ⟨rfl, ⟨nd, rfl⟩⟩; refine ⟨_, rfl, ?_⟩))
   have H := HF9.out
   clear HF9
   by_cases c10 : t153 = true
   rotate_left
   ·replace c10 := Bool.eq_false_iff.mpr c10
    subst c10
    rw [if_neg (show ¬ (false = true) by decide)] at H
    obtain rfl := Option.some.inj H
    go_wp2
    go_ret
    exact ⟨by first | rfl | (simp; done) | (simp [*]; done), by repeat (first | exact Drawn0.refl _ | apply Drawn0.step)⟩
   subst c10
   rw [if_pos rfl] at H
   have H' := zA H
   clear H
   go_wp2
   go_roundg k1
   case measure => have := HK1.out; omega
   case rel => exact ⟨(wrap64 (x7_1 + 1)), rfl, H', ⟨by have := HK1.out; omega⟩, by repeat (first | exact Drawn0.refl _ | apply Drawn0.step)⟩
theorem spec_l05Nums.l0_ev (lo hi : Int) (l : List Int) (hl : l.length = 64) : ∀ (d i : Nat), i + d = 64 → Ev (fun k => spec_l05Nums.l0 k l lo hi (i : Int)) (allW lo hi (l.drop i)) := by
 intro d
 induction d with
 | zero =>
  intro i hi'
  refine Ev.step (fun _ => by rw [spec_l05Nums.l0]) (Ev.ng (by omega) (Ev.eq (Ev.now _) ?_))
  rw [List.drop_of_length_le (by omega)]; rfl
 | succ d ih =>
  intro i hi'
  have h : i < l.length := by omega
  rw [List.drop_eq_getElem_cons h]
  refine Ev.step (fun _ => by rw [spec_l05Nums.l0]) (Ev.ip (by omega) (Ev.ip (by omega) (Ev.ip (by omega) ?_)))
  rw [rd_nat l i h, wrap_succ i (by omega), allW, List.all_cons]
  refine Ev.bind (Ev.c (spec_l01Between.val _ _ _)) ?_
  by_cases ha : (decide (lo ≤ l[i]) && decide (l[i] ≤ hi)) = true
  ·refine Ev.ip ha (Ev.eq (ih (i + 1) (by omega)) ?_)
   rw [ha, Bool.true_and]; rfl
  refine Ev.ng ha (Ev.eq (Ev.now _) ?_)
  rw [Bool.eq_false_iff.2 ha, Bool.false_and]
theorem spec_l05Nums.ev (lo hi : Int) (l : List Int) : Ev (fun k => spec_l05Nums.f k l lo hi) (decide (l.length = 64) && allW lo hi l) := by
 unfold spec_l05Nums.f
 by_cases e : l.length = 64
 rotate_left
 ·rw [decide_eq_false e]
  exact Ev.ng (by omega) (Ev.now _)
 rw [zT e, Bool.true_and]
 exact Ev.ip (by omega) (spec_l05Nums.l0_ev lo hi l e 64 0 (by omega))
end Go.Proofs.YtilimpjcdeeaiaaGreat.G


namespace Go.Proofs.YtilimpjcdeeaiaaGreat.G
open Go.RowKit Go.Proofs.YtilimpjcdeeaiaaGreatW.PrintWords Go.Proofs.YtilimpjcdeeaiaaGreatW.PrintLast Go.Proofs.YtilimpjcdeeaiaaGreatW.PrintMore
attribute [local go_sem] max2_int min2_int max_two min_two max_three min_three max_four min_four   -- for this text's walks alone
def spec_l11Level.f (k : Nat) (l0 : List Int) : Option (Bool) := (spec_l05Nums.f k l0 (-16383) 16383).bind fun t154 => (some t154)
set_option maxHeartbeats 8000000 in
set_option maxRecDepth 100000 in
theorem spec_l11Level.calls (k : Nat) (A0 : Option Addr) (c0 : Nat) (l0 : List Int) (r : Bool) (w : World) (hr0 : Kd.C (Kd.int .i64) w A0 l0.length l0) (hc0 : l0.length ≤ c0) (h : spec_l11Level.f k l0 = some r) :
  Calls Tryz.prog 58 #[.slice A0 l0.length c0] w fun e w' => e = .returned (.bool r) ∧ Drawn0 w w' := by
 have HR0 := zA hr0
 have HC0 := zA hc0
 clear hr0 hc0
 have H : ((spec_l05Nums.f k l0 (-16383) 16383).bind fun t154 => (some t154)) = some r := h
 clear h
 replace H := Option.bind_eq_some_iff.mp H
 obtain ⟨t154, A20, H⟩ := H
 try dsimp only at H
 have A2 := zA A20
 clear A20
 obtain rfl := Option.some.inj H
 go_enter Tryz.func58, Tryz.ntmps58
 go_wp2_with (first | ((with_reducible refine gate_callee (f := 62) rfl ?_); refine goesL_ (some 4) rfl rfl Tryz.func62 (by kernel_rfl) rfl #[.slice A0 l0.length c0, .int .i64 (-16383), .int .i64 16383] rfl (by (try simp only [zU, zV, zW]); first | done | rfl | (simp only [zR, zQ]; rfl)) ?_; (with_reducible refine (spec_l05Nums.calls k _ _ l0 (-16383) 16383 t154 _ ?side1 ?side2 A2.out).mono ?_); (case side1 => repeat (first | exact HR0.out | (with_reducible refine yH ?_ _) | (with_reducible refine yF ?_ _) | (with_reducible refine yG ?_))); (case side2 => exact HC0.out); rintro e w' ⟨rfl, ⟨nd, rfl⟩⟩; refine ⟨_, rfl, ?_⟩))
 go_ret
 exact ⟨by first | rfl | (simp; done) | (simp [*]; done), by repeat (first | exact Drawn0.refl _ | apply Drawn0.step)⟩
end Go.Proofs.YtilimpjcdeeaiaaGreat.G


namespace Go.Proofs.YtilimpjcdeeaiaaGreat.G
open Go.RowKit Go.Proofs.YtilimpjcdeeaiaaGreatW.PrintWords Go.Proofs.YtilimpjcdeeaiaaGreatW.PrintLast Go.Proofs.YtilimpjcdeeaiaaGreatW.PrintMore
attribute [local go_sem] max2_int min2_int max_two min_two max_three min_three max_four min_four   -- for this text's walks alone
def spec_l04Size.f (k : Nat) (a0_0 : Int) (a0_1 : Int) (a0_2 : Int) (a0_3 : Int) (l0_4 : List (S53)) (a1 : Int) : Option (Int × Int) := (spec_l04Most.f k a0_0 a0_1 a0_2 a0_3 l0_4).bind fun bt156 => (if 0 ≤ a1 then (if a1 < (l0_4.length : Int) then ((spec_l04Up.f (wrap64 (a0_1 * ((rd_T53 l0_4 a1).f1))) bt156.1).bind fun t159 => ((spec_l04Up.f (wrap64 (a0_2 * ((rd_T53 l0_4 a1).f2))) bt156.2).bind fun t161 => (some (t159, t161)))) else (none)) else (none))
set_option maxHeartbeats 8000000 in
set_option maxRecDepth 100000 in
theorem spec_l04Size.calls (k : Nat) (a0_0 : Int) (a0_1 : Int) (a0_2 : Int) (a0_3 : Int) (A0_4 : Option Addr) (c0_4 : Nat) (l0_4 : List (S53)) (a1 : Int) (r1 : Int) (r2 : Int) (w : World) (hr0_4 : Kd.C k53 w A0_4 l0_4.length l0_4) (hc0_4 : l0_4.length ≤ c0_4) (h : spec_l04Size.f k a0_0 a0_1 a0_2 a0_3 l0_4 a1 = some (r1, r2)) :
  Calls Tryz.prog 88 #[.agg #[.int .i64 a0_0, .int .i64 a0_1, .int .i64 a0_2, .int .i64 a0_3, .slice A0_4 l0_4.length c0_4], .int .i64 a1] w fun e w' => e = .returned (.tuple #[.int .i64 r1, .int .i64 r2]) ∧ Below w.heap.size w w' := by
 have hu37 := Tryz.underlying37
 have HR0_4 := zA hr0_4
 have HC0_4 := zA hc0_4
 clear hr0_4 hc0_4
 have HB := zA (Below.refl w.heap.size w)
 have H : ((spec_l04Most.f k a0_0 a0_1 a0_2 a0_3 l0_4).bind fun bt156 => (if 0 ≤ a1 then (if a1 < (l0_4.length : Int) then ((spec_l04Up.f (wrap64 (a0_1 * ((rd_T53 l0_4 a1).f1))) bt156.1).bind fun t159 => ((spec_l04Up.f (wrap64 (a0_2 * ((rd_T53 l0_4 a1).f2))) bt156.2).bind fun t161 => (some (t159, t161)))) else (none)) else (none))) = some (r1, r2) := h
 clear h
 replace H := Option.bind_eq_some_iff.mp H
 obtain ⟨⟨t156, t157⟩, A30, H⟩ := H
 try dsimp only at H
 have A3 := zA A30
 clear A30
 by_cases c4 : 0 ≤ a1
 rotate_left
 ·rw [if_neg c4] at H
  exact absurd H (by simp)
 rw [if_pos c4] at H
 have c4b0 := zT c4
 clear c4
 by_cases c5 : a1 < (l0_4.length : Int)
 rotate_left
 ·rw [if_neg c5] at H
  exact absurd H (by simp)
 rw [if_pos c5] at H
 have c5b0 := zT c5
 clear c5
 replace H := Option.bind_eq_some_iff.mp H
 obtain ⟨t159, A60, H⟩ := H
 try dsimp only at H
 have A6 := zA A60
 clear A60
 replace H := Option.bind_eq_some_iff.mp H
 obtain ⟨t161, A70, H⟩ := H
 try dsimp only at H
 have A7 := zA A70
 clear A70
 simp only [Option.some.injEq, Prod.mk.injEq] at H
 obtain ⟨rfl, rfl⟩ := H
 go_enter Tryz.func88, Tryz.ntmps88
 go_wp2_with (first | ((with_reducible refine gate_dst (N := 2) rfl ?_); refine nxX (N := 2) (cs := #[.int .i64 a0_0, .int .i64 a0_1, .int .i64 a0_2, .int .i64 a0_3, .slice A0_4 l0_4.length c0_4]) (t := 37) ?_; intro gb155 hg w8 hbox hb; have BK155 := zA (hbox); have GE155 := nxG HB hg; replace HB := nxH hb HB; clear hb hbox hg; obtain ⟨hcz9_0, hcz9_1, hcz9_2, hcz9_3, hcz9_4⟩ := cz5 BK155) | (go_at_call 86; (with_reducible refine (spec_l04Most.calls k a0_0 a0_1 a0_2 a0_3 _ _ l0_4 t156 t157 _ ?side1 ?side2 A3.out).mono ?_); (case side1 => exact nxC HR0_4 HB); (case side2 => exact HC0_4.out); rintro e w10 ⟨rfl, hb⟩; replace BK155 := nxB hb BK155; replace HB := nxH hb HB; (try clear hb); (try clear hb2); (try clear hk); (try clear hi); obtain ⟨hcz11_0, hcz11_1, hcz11_2, hcz11_3, hcz11_4⟩ := cz5 BK155; have p158 : 0 ≤ (a1 : Int) := zI (by first | (with_reducible assumption) | assumption); have q158 : a1 < (l0_4.length : Int) := zI (by first | (with_reducible assumption) | assumption); obtain ⟨ad158, e158, hx158_0, hx158_1, hx158_2, hx158_3⟩ := at_T53 HR0_4.out a1 p158 q158; cases e158; replace hx158_0 := (HB.out.cell (World.block_lt_of_cell? w _ hx158_0)).trans hx158_0; replace hx158_1 := (HB.out.cell (World.block_lt_of_cell? w _ hx158_1)).trans hx158_1; replace hx158_2 := (HB.out.cell (World.block_lt_of_cell? w _ hx158_2)).trans hx158_2; replace hx158_3 := (HB.out.cell (World.block_lt_of_cell? w _ hx158_3)).trans hx158_3; replace p158 := eq_true p158; replace q158 := eq_true q158) | (go_at_call 87; (with_reducible refine (spec_l04Up.calls (wrap64 (a0_1 * ((rd_T53 l0_4 a1).f1))) t156 t159 _ A6.out).mono ?_); rintro e w' ⟨rfl, ⟨nd, rfl⟩⟩; (try first | exact ⟨rfl, _, World.drewN_drewN _ _ _⟩ | exact ⟨rfl, _, Eq.trans (World.drewN_drewN _ _ _) (congrArg (World.drewN _) (Nat.add_assoc _ _ _))⟩); try (have p160 : 0 ≤ (a1 : Int) := zI (by first | (with_reducible assumption) | assumption); have q160 : a1 < (l0_4.length : Int) := zI (by first | (with_reducible assumption) | assumption); obtain ⟨ad160, e160, hx160_0, hx160_1, hx160_2, hx160_3⟩ := at_T53 HR0_4.out a1 p160 q160; obtain rfl : ad158 = ad160 := (by injection e160); replace hx160_0 := (HB.out.cell (World.block_lt_of_cell? w _ hx160_0)).trans hx160_0; replace hx160_1 := (HB.out.cell (World.block_lt_of_cell? w _ hx160_1)).trans hx160_1; replace hx160_2 := (HB.out.cell (World.block_lt_of_cell? w _ hx160_2)).trans hx160_2; replace hx160_3 := (HB.out.cell (World.block_lt_of_cell? w _ hx160_3)).trans hx160_3; replace p160 := eq_true p160; replace q160 := eq_true q160)) | (go_at_call 87; (with_reducible refine (spec_l04Up.calls (wrap64 (a0_2 * ((rd_T53 l0_4 a1).f2))) t157 t161 _ A7.out).mono ?_); rintro e w' ⟨rfl, ⟨nd, rfl⟩⟩; (try first | exact ⟨rfl, _, World.drewN_drewN _ _ _⟩ | exact ⟨rfl, _, Eq.trans (World.drewN_drewN _ _ _) (congrArg (World.drewN _) (Nat.add_assoc _ _ _))⟩)))
 repeat (go_quiet (first | ((with_reducible refine gate_dst (N := 2) rfl ?_); refine nxX (N := 2) (cs := #[.int .i64 a0_0, .int .i64 a0_1, .int .i64 a0_2, .int .i64 a0_3, .slice A0_4 l0_4.length c0_4]) (t := 37) ?_; intro gb155 hg w8 hbox hb; have BK155 := zA (hbox); have GE155 := nxG HB hg; replace HB := nxH hb HB; clear hb hbox hg; obtain ⟨hcz9_0, hcz9_1, hcz9_2, hcz9_3, hcz9_4⟩ := cz5 BK155) | (go_at_call 86; (with_reducible refine (spec_l04Most.calls k a0_0 a0_1 a0_2 a0_3 _ _ l0_4 t156 t157 _ ?side1 ?side2 A3.out).mono ?_); (case side1 => exact nxC HR0_4 HB); (case side2 => exact HC0_4.out); rintro e w10 ⟨rfl, hb⟩; replace BK155 := nxB hb BK155; replace HB := nxH hb HB; (try clear hb); (try clear hb2); (try clear hk); (try clear hi); obtain ⟨hcz11_0, hcz11_1, hcz11_2, hcz11_3, hcz11_4⟩ := cz5 BK155; have p158 : 0 ≤ (a1 : Int) := zI (by first | (with_reducible assumption) | assumption); have q158 : a1 < (l0_4.length : Int) := zI (by first | (with_reducible assumption) | assumption); obtain ⟨ad158, e158, hx158_0, hx158_1, hx158_2, hx158_3⟩ := at_T53 HR0_4.out a1 p158 q158; cases e158; replace hx158_0 := (HB.out.cell (World.block_lt_of_cell? w _ hx158_0)).trans hx158_0; replace hx158_1 := (HB.out.cell (World.block_lt_of_cell? w _ hx158_1)).trans hx158_1; replace hx158_2 := (HB.out.cell (World.block_lt_of_cell? w _ hx158_2)).trans hx158_2; replace hx158_3 := (HB.out.cell (World.block_lt_of_cell? w _ hx158_3)).trans hx158_3; replace p158 := eq_true p158; replace q158 := eq_true q158) | (go_at_call 87; (with_reducible refine (spec_l04Up.calls (wrap64 (a0_1 * ((rd_T53 l0_4 a1).f1))) t156 t159 _ A6.out).mono ?_); rintro e w' ⟨rfl, ⟨nd, rfl⟩⟩; (try first | exact ⟨rfl, _, World.drewN_drewN _ _ _⟩ | exact ⟨rfl, _, Eq.trans (World.drewN_drewN _ _ _) (congrArg (World.drewN _) (Nat.add_assoc _ _ _))⟩); try (have p160 : 0 ≤ (a1 : Int) := zI (by first | (with_reducible assumption) | assumption); have q160 : a1 < (l0_4.length : Int) := zI (by first | (with_reducible assumption) | assumption); obtain ⟨ad160, e160, hx160_0, hx160_1, hx160_2, hx160_3⟩ := at_T53 HR0_4.out a1 p160 q160; obtain rfl : ad158 = ad160 := (by injection e160); replace hx160_0 := (HB.out.cell (World.block_lt_of_cell? w _ hx160_0)).trans hx160_0; replace hx160_1 := (HB.out.cell (World.block_lt_of_cell? w _ hx160_1)).trans hx160_1; replace hx160_2 := (HB.out.cell (World.block_lt_of_cell? w _ hx160_2)).trans hx160_2; replace hx160_3 := (HB.out.cell (World.block_lt_of_cell? w _ hx160_3)).trans hx160_3; replace p160 := eq_true p160; replace q160 := eq_true q160)) | (go_at_call 87; (with_reducible refine (spec_l04Up.calls (wrap64 (a0_2 * ((rd_T53 l0_4 a1).f2))) t157 t161 _ A7.out).mono ?_); rintro e w' ⟨rfl, ⟨nd, rfl⟩⟩; (try first | exact ⟨rfl, _, World.drewN_drewN _ _ _⟩ | exact ⟨rfl, _, Eq.trans (World.drewN_drewN _ _ _) (congrArg (World.drewN _) (Nat.add_assoc _ _ _))⟩))); try go_wp2_with (first | ((with_reducible refine gate_dst (N := 2) rfl ?_); refine nxX (N := 2) (cs := #[.int .i64 a0_0, .int .i64 a0_1, .int .i64 a0_2, .int .i64 a0_3, .slice A0_4 l0_4.length c0_4]) (t := 37) ?_; intro gb155 hg w8 hbox hb; have BK155 := zA (hbox); have GE155 := nxG HB hg; replace HB := nxH hb HB; clear hb hbox hg; obtain ⟨hcz9_0, hcz9_1, hcz9_2, hcz9_3, hcz9_4⟩ := cz5 BK155) | (go_at_call 86; (with_reducible refine (spec_l04Most.calls k a0_0 a0_1 a0_2 a0_3 _ _ l0_4 t156 t157 _ ?side1 ?side2 A3.out).mono ?_); (case side1 => exact nxC HR0_4 HB); (case side2 => exact HC0_4.out); rintro e w10 ⟨rfl, hb⟩; replace BK155 := nxB hb BK155; replace HB := nxH hb HB; (try clear hb); (try clear hb2); (try clear hk); (try clear hi); obtain ⟨hcz11_0, hcz11_1, hcz11_2, hcz11_3, hcz11_4⟩ := cz5 BK155; have p158 : 0 ≤ (a1 : Int) := zI (by first | (with_reducible assumption) | assumption); have q158 : a1 < (l0_4.length : Int) := zI (by first | (with_reducible assumption) | assumption); obtain ⟨ad158, e158, hx158_0, hx158_1, hx158_2, hx158_3⟩ := at_T53 HR0_4.out a1 p158 q158; cases e158; replace hx158_0 := (HB.out.cell (World.block_lt_of_cell? w _ hx158_0)).trans hx158_0; replace hx158_1 := (HB.out.cell (World.block_lt_of_cell? w _ hx158_1)).trans hx158_1; replace hx158_2 := (HB.out.cell (World.block_lt_of_cell? w _ hx158_2)).trans hx158_2; replace hx158_3 := (HB.out.cell (World.block_lt_of_cell? w _ hx158_3)).trans hx158_3; replace p158 := eq_true p158; replace q158 := eq_true q158) | (go_at_call 87; (with_reducible refine (spec_l04Up.calls (wrap64 (a0_1 * ((rd_T53 l0_4 a1).f1))) t156 t159 _ A6.out).mono ?_); rintro e w' ⟨rfl, ⟨nd, rfl⟩⟩; (try first | exact ⟨rfl, _, World.drewN_drewN _ _ _⟩ | exact ⟨rfl, _, Eq.trans (World.drewN_drewN _ _ _) (congrArg (World.drewN _) (Nat.add_assoc _ _ _))⟩); try (have p160 : 0 ≤ (a1 : Int) := zI (by first | (with_reducible assumption) | assumption); have q160 : a1 < (l0_4.length : Int) := zI (by first | (with_reducible assumption) | assumption); obtain ⟨ad160, e160, hx160_0, hx160_1, hx160_2, hx160_3⟩ := at_T53 HR0_4.out a1 p160 q160; obtain rfl : ad158 = ad160 := (by injection e160); replace hx160_0 := (HB.out.cell (World.block_lt_of_cell? w _ hx160_0)).trans hx160_0; replace hx160_1 := (HB.out.cell (World.block_lt_of_cell? w _ hx160_1)).trans hx160_1; replace hx160_2 := (HB.out.cell (World.block_lt_of_cell? w _ hx160_2)).trans hx160_2; replace hx160_3 := (HB.out.cell (World.block_lt_of_cell? w _ hx160_3)).trans hx160_3; replace p160 := eq_true p160; replace q160 := eq_true q160)) | (go_at_call 87; (with_reducible refine (spec_l04Up.calls (wrap64 (a0_2 * ((rd_T53 l0_4 a1).f2))) t157 t161 _ A7.out).mono ?_); rintro e w' ⟨rfl, ⟨nd, rfl⟩⟩; (try first | exact ⟨rfl, _, World.drewN_drewN _ _ _⟩ | exact ⟨rfl, _, Eq.trans (World.drewN_drewN _ _ _) (congrArg (World.drewN _) (Nat.add_assoc _ _ _))⟩))))
 go_ret2
 exact ⟨rfl, by repeat (first | (with_reducible first | exact HB.out | apply zC | apply zB | apply zF | refine zE ?_ GE155.out) | exact HB.out)⟩
end Go.Proofs.YtilimpjcdeeaiaaGreat.G


namespace Go.Proofs.YtilimpjcdeeaiaaGreat.G
open Go.RowKit Go.Proofs.YtilimpjcdeeaiaaGreatW.PrintWords Go.Proofs.YtilimpjcdeeaiaaGreatW.PrintLast Go.Proofs.YtilimpjcdeeaiaaGreatW.PrintMore
attribute [local go_sem] max2_int min2_int max_two min_two max_three min_three max_four min_four   -- for this text's walks alone
def spec_l11Need.f (k : Nat) (a0_0 : Int) (a0_1 : Int) (a0_2 : Int) (a0_3 : Int) (l0_4 : List (S53)) (a1 : Int) : Option (Int × Int) := (spec_l04Size.f k a0_0 a0_1 a0_2 a0_3 l0_4 a1).bind fun bt163 => ((spec_l04Up.f bt163.1 8).bind fun t165 => ((spec_l04Up.f bt163.2 8).bind fun t166 => (some (t165, t166))))
set_option maxHeartbeats 8000000 in
set_option maxRecDepth 100000 in
theorem spec_l11Need.calls (k : Nat) (a0_0 : Int) (a0_1 : Int) (a0_2 : Int) (a0_3 : Int) (A0_4 : Option Addr) (c0_4 : Nat) (l0_4 : List (S53)) (a1 : Int) (r1 : Int) (r2 : Int) (w : World) (hr0_4 : Kd.C k53 w A0_4 l0_4.length l0_4) (hc0_4 : l0_4.length ≤ c0_4) (h : spec_l11Need.f k a0_0 a0_1 a0_2 a0_3 l0_4 a1 = some (r1, r2)) :
  Calls Tryz.prog 74 #[.agg #[.int .i64 a0_0, .int .i64 a0_1, .int .i64 a0_2, .int .i64 a0_3, .slice A0_4 l0_4.length c0_4], .int .i64 a1] w fun e w' => e = .returned (.tuple #[.int .i64 r1, .int .i64 r2]) ∧ Below w.heap.size w w' := by
 have hu37 := Tryz.underlying37
 have HR0_4 := zA hr0_4
 have HC0_4 := zA hc0_4
 clear hr0_4 hc0_4
 have HB := zA (Below.refl w.heap.size w)
 have H : ((spec_l04Size.f k a0_0 a0_1 a0_2 a0_3 l0_4 a1).bind fun bt163 => ((spec_l04Up.f bt163.1 8).bind fun t165 => ((spec_l04Up.f bt163.2 8).bind fun t166 => (some (t165, t166))))) = some (r1, r2) := h
 clear h
 replace H := Option.bind_eq_some_iff.mp H
 obtain ⟨⟨t163, t164⟩, A30, H⟩ := H
 try dsimp only at H
 have A3 := zA A30
 clear A30
 replace H := Option.bind_eq_some_iff.mp H
 obtain ⟨t165, A40, H⟩ := H
 try dsimp only at H
 have A4 := zA A40
 clear A40
 replace H := Option.bind_eq_some_iff.mp H
 obtain ⟨t166, A50, H⟩ := H
 try dsimp only at H
 have A5 := zA A50
 clear A50
 simp only [Option.some.injEq, Prod.mk.injEq] at H
 obtain ⟨rfl, rfl⟩ := H
 go_enter Tryz.func74, Tryz.ntmps74
 go_wp2_with (first | ((with_reducible refine gate_dst (N := 2) rfl ?_); refine nxX (N := 2) (cs := #[.int .i64 a0_0, .int .i64 a0_1, .int .i64 a0_2, .int .i64 a0_3, .slice A0_4 l0_4.length c0_4]) (t := 37) ?_; intro gb162 hg w6 hbox hb; have n0_ := nxH hb HB; have n1_ := zA (hbox); clear HB; have HB := n0_; have BK162 := n1_; clear n0_ n1_ ; clear hb hbox hg; obtain ⟨hcz7_0, hcz7_1, hcz7_2, hcz7_3, hcz7_4⟩ := cz5 BK162) | ((with_reducible refine gate_callee (f := 88) rfl ?_); refine goesL_ (some 11) rfl rfl Tryz.func88 (by kernel_rfl) rfl #[.agg #[.int .i64 a0_0, .int .i64 a0_1, .int .i64 a0_2, .int .i64 a0_3, .slice A0_4 l0_4.length c0_4], .int .i64 a1] rfl (by (try simp only [zU, zV, zW]); first | done | rfl | (simp only [zR, zQ]; rfl)) ?_; (with_reducible refine (spec_l04Size.calls k a0_0 a0_1 a0_2 a0_3 _ _ l0_4 a1 t163 t164 _ ?side1 ?side2 A3.out).mono ?_); (case side1 => exact nxC HR0_4 HB); (case side2 => exact HC0_4.out); rintro e w8 ⟨rfl, hb⟩; refine ⟨_, rfl, ?_⟩; replace BK162 := nxB hb BK162; replace HB := nxH hb HB; (try clear hb); (try clear hb2); (try clear hk); (try clear hi)) | ((with_reducible refine gate_callee (f := 87) rfl ?_); refine goesL_ (some 15) rfl rfl Tryz.func87 (by kernel_rfl) rfl #[.int .i64 t163, .int .i64 8] rfl (by (try simp only [zU, zV, zW]); first | done | rfl | (simp only [zR, zQ]; rfl)) ?_; (with_reducible refine (spec_l04Up.calls t163 8 t165 _ A4.out).mono ?_); rintro e w' ⟨rfl, ⟨nd, rfl⟩⟩; refine ⟨_, rfl, ?_⟩) | ((with_reducible refine gate_callee (f := 87) rfl ?_); refine goesL_ (some 17) rfl rfl Tryz.func87 (by kernel_rfl) rfl #[.int .i64 t164, .int .i64 8] rfl (by (try simp only [zU, zV, zW]); first | done | rfl | (simp only [zR, zQ]; rfl)) ?_; (with_reducible refine (spec_l04Up.calls t164 8 t166 _ A5.out).mono ?_); rintro e w' ⟨rfl, ⟨nd, rfl⟩⟩; refine ⟨_, rfl, ?_⟩))
 go_ret2
 exact ⟨rfl, nxD HB⟩
end Go.Proofs.YtilimpjcdeeaiaaGreat.G


namespace Go.Proofs.YtilimpjcdeeaiaaGreat.G
open Go.RowKit Go.Proofs.YtilimpjcdeeaiaaGreatW.PrintWords Go.Proofs.YtilimpjcdeeaiaaGreatW.PrintLast Go.Proofs.YtilimpjcdeeaiaaGreatW.PrintMore
attribute [local go_sem] max2_int min2_int max_two min_two max_three min_three max_four min_four   -- for this text's walks alone
def spec_l11Hidden.f (k : Nat) (a0_0 : Int) (a0_1 : Int) (a0_2 : Int) (a0_3 : Int) (l0_4 : List (S53)) (a1_0 : Int) (a1_1 : Int) (a1_2 : Int) : Option (Bool) := (spec_l11Need.f k a0_0 a0_1 a0_2 a0_3 l0_4 a1_0).bind fun bt169 => (if a1_1 ≥ bt169.2 then (some true) else (some (decide (a1_2 ≥ bt169.1))))
set_option maxHeartbeats 8000000 in
set_option maxRecDepth 100000 in
theorem spec_l11Hidden.calls (k : Nat) (a0_0 : Int) (a0_1 : Int) (a0_2 : Int) (a0_3 : Int) (A0_4 : Option Addr) (c0_4 : Nat) (l0_4 : List (S53)) (a1_0 : Int) (a1_1 : Int) (a1_2 : Int) (r : Bool) (w : World) (hr0_4 : Kd.C k53 w A0_4 l0_4.length l0_4) (hc0_4 : l0_4.length ≤ c0_4) (h : spec_l11Hidden.f k a0_0 a0_1 a0_2 a0_3 l0_4 a1_0 a1_1 a1_2 = some r) :
  Calls Tryz.prog 59 #[.agg #[.int .i64 a0_0, .int .i64 a0_1, .int .i64 a0_2, .int .i64 a0_3, .slice A0_4 l0_4.length c0_4], .agg #[.int .i64 a1_0, .int .i64 a1_1, .int .i64 a1_2]] w fun e w' => e = .returned (.bool r) ∧ Below w.heap.size w w' := by
 have hu37 := Tryz.underlying37
 have hu90 := Tryz.underlying90
 have HR0_4 := zA hr0_4
 have HC0_4 := zA hc0_4
 clear hr0_4 hc0_4
 have HB := zA (Below.refl w.heap.size w)
 have H : ((spec_l11Need.f k a0_0 a0_1 a0_2 a0_3 l0_4 a1_0).bind fun bt169 => (if a1_1 ≥ bt169.2 then (some true) else (some (decide (a1_2 ≥ bt169.1))))) = some r := h
 clear h
 replace H := Option.bind_eq_some_iff.mp H
 obtain ⟨⟨t169, t170⟩, A30, H⟩ := H
 try dsimp only at H
 have A3 := zA A30
 clear A30
 by_cases c4 : a1_1 ≥ t170
 ·rw [if_pos c4] at H
  have c4b0 := zT c4
  clear c4
  obtain rfl := Option.some.inj H
  go_enter Tryz.func59, Tryz.ntmps59
  go_wp2_with (first | ((with_reducible refine gate_dst (N := 2) rfl ?_); refine nxX (N := 2) (cs := #[.int .i64 a0_0, .int .i64 a0_1, .int .i64 a0_2, .int .i64 a0_3, .slice A0_4 l0_4.length c0_4]) (t := 37) ?_; intro gb167 hg w5 hbox hb; have n0_ := nxH hb HB; have n1_ := zA (hbox); clear HB; have HB := n0_; have BK167 := n1_; clear n0_ n1_ ; clear hb hbox hg) | ((with_reducible refine gate_dst (N := 3) rfl ?_); refine nxX (N := 3) (cs := #[.int .i64 a1_0, .int .i64 a1_1, .int .i64 a1_2]) (t := 90) ?_; intro gb168 hg w6 hbox hb; have BK168 := zA (hbox); have NB167_168 := nxL BK167 hg; have NB168_167 := nxK BK167 hg; replace BK167 := nxB hb BK167; replace HB := nxH hb HB; clear hb hbox hg; have hnb7 := NB167_168.out; have hnc7 := NB168_167.out; obtain ⟨hcz8_0, hcz8_1, hcz8_2, hcz8_3, hcz8_4⟩ := cz5 BK167; obtain ⟨hcz9_0, hcz9_1, hcz9_2⟩ := cz3 BK168) | ((with_reducible refine gate_callee (f := 74) rfl ?_); refine goesL_ (some 11) rfl rfl Tryz.func74 (by kernel_rfl) rfl #[.agg #[.int .i64 a0_0, .int .i64 a0_1, .int .i64 a0_2, .int .i64 a0_3, .slice A0_4 l0_4.length c0_4], .int .i64 a1_0] rfl (by (try simp only [zU, zV, zW]); first | done | rfl | (simp only [zR, zQ]; rfl)) ?_; (with_reducible refine (spec_l11Need.calls k a0_0 a0_1 a0_2 a0_3 _ _ l0_4 a1_0 t169 t170 _ ?side1 ?side2 A3.out).mono ?_); (case side1 => exact nxC HR0_4 HB); (case side2 => exact HC0_4.out); rintro e w10 ⟨rfl, hb⟩; refine ⟨_, rfl, ?_⟩; replace BK167 := nxB hb BK167; replace BK168 := nxB hb BK168; replace HB := nxH hb HB; (try clear hb); (try clear hb2); (try clear hk); (try clear hi); obtain ⟨hcz11_0, hcz11_1, hcz11_2⟩ := cz3 BK168))
  go_ret
  exact ⟨rfl, nxD HB⟩
 rw [if_neg c4] at H
 have c4b0 := decide_eq_false c4
 clear c4
 obtain rfl := Option.some.inj H
 go_enter Tryz.func59, Tryz.ntmps59
 go_wp2_with (first | ((with_reducible refine gate_dst (N := 2) rfl ?_); refine nxX (N := 2) (cs := #[.int .i64 a0_0, .int .i64 a0_1, .int .i64 a0_2, .int .i64 a0_3, .slice A0_4 l0_4.length c0_4]) (t := 37) ?_; intro gb167 hg w12 hbox hb; have n0_ := nxH hb HB; have n1_ := zA (hbox); clear HB; have HB := n0_; have BK167 := n1_; clear n0_ n1_ ; clear hb hbox hg) | ((with_reducible refine gate_dst (N := 3) rfl ?_); refine nxX (N := 3) (cs := #[.int .i64 a1_0, .int .i64 a1_1, .int .i64 a1_2]) (t := 90) ?_; intro gb168 hg w13 hbox hb; have BK168 := zA (hbox); have NB167_168 := nxL BK167 hg; have NB168_167 := nxK BK167 hg; replace BK167 := nxB hb BK167; replace HB := nxH hb HB; clear hb hbox hg; have hnb14 := NB167_168.out; have hnc14 := NB168_167.out; obtain ⟨hcz15_0, hcz15_1, hcz15_2, hcz15_3, hcz15_4⟩ := cz5 BK167; obtain ⟨hcz16_0, hcz16_1, hcz16_2⟩ := cz3 BK168) | ((with_reducible refine gate_callee (f := 74) rfl ?_); refine goesL_ (some 11) rfl rfl Tryz.func74 (by kernel_rfl) rfl #[.agg #[.int .i64 a0_0, .int .i64 a0_1, .int .i64 a0_2, .int .i64 a0_3, .slice A0_4 l0_4.length c0_4], .int .i64 a1_0] rfl (by (try simp only [zU, zV, zW]); first | done | rfl | (simp only [zR, zQ]; rfl)) ?_; (with_reducible refine (spec_l11Need.calls k a0_0 a0_1 a0_2 a0_3 _ _ l0_4 a1_0 t169 t170 _ ?side1 ?side2 A3.out).mono ?_); (case side1 => exact nxC HR0_4 HB); (case side2 => exact HC0_4.out); rintro e w17 ⟨rfl, hb⟩; refine ⟨_, rfl, ?_⟩; replace BK167 := nxB hb BK167; replace BK168 := nxB hb BK168; replace HB := nxH hb HB; (try clear hb); (try clear hb2); (try clear hk); (try clear hi); obtain ⟨hcz18_0, hcz18_1, hcz18_2⟩ := cz3 BK168))
 go_ret
 exact ⟨rfl, nxD HB⟩
end Go.Proofs.YtilimpjcdeeaiaaGreat.G


namespace Go.Proofs.YtilimpjcdeeaiaaGreat.G
open Go.RowKit Go.Proofs.YtilimpjcdeeaiaaGreatW.PrintWords Go.Proofs.YtilimpjcdeeaiaaGreatW.PrintLast Go.Proofs.YtilimpjcdeeaiaaGreatW.PrintMore
attribute [local go_sem] max2_int min2_int max_two min_two max_three min_three max_four min_four   -- for this text's walks alone
def spec_l11Zero.l0 : Nat → List Int → Int → Option (Bool)
 | 0, _, _ => none
 | k + 1, x0, x3 => if x3 < (x0.length : Int) then (if 0 ≤ x3 then (if (rd x0 x3) = 0 then (spec_l11Zero.l0 k x0 (wrap64 (x3 + 1))) else (some false)) else (none)) else (some true)
def spec_l11Zero.f (k : Nat) (l0 : List Int) : Option (Bool) := spec_l11Zero.l0 k l0 0
set_option maxHeartbeats 8000000 in
set_option maxRecDepth 100000 in
theorem spec_l11Zero.calls (k : Nat) (A0 : Option Addr) (c0 : Nat) (l0 : List Int) (r : Bool) (w : World) (hr0 : Kd.C (Kd.int .i64) w A0 l0.length l0) (hc0 : l0.length ≤ c0) (h : spec_l11Zero.f k l0 = some r) :
  Calls Tryz.prog 60 #[.slice A0 l0.length c0] w fun e w' => e = .returned (.bool r) ∧ Drawn0 w w' := by
 have HR0 := zA hr0
 have HC0 := zA hc0
 clear hr0 hc0
 have H : (spec_l11Zero.l0 k l0 0) = some r := h
 clear h
 have H' := zA H
 clear H
 go_enter Tryz.func60, Tryz.ntmps60
 go_wp2
 go_loopg [3] k (fun kq v3 w' => ∃ (x3_1 : Int), v3 = .int .i64 x3_1 ∧ Aside0 (spec_l11Zero.l0 kq l0 x3_1 = some r) ∧ Aside0 (kq ≤ k) ∧ Drawn0 w w')
 case atStart => exact ⟨(0), rfl, H', ⟨Nat.le_refl _⟩, by repeat (first | exact Drawn0.refl _ | apply Drawn0.step)⟩
 case round =>
  clear H'
  obtain ⟨x3_1, rfl, HA, HK1, ⟨m1, rfl⟩⟩ := hrel
  cases gk with
  | zero => exact absurd HA.out (by simp [spec_l11Zero.l0])
  | succ k1 =>
   have H := HA.out
   clear HA
   simp only [spec_l11Zero.l0] at H
   by_cases c2 : x3_1 < (l0.length : Int)
   rotate_left
   ·rw [if_neg c2] at H
    have c2b0 := decide_eq_false c2
    clear c2
    obtain rfl := Option.some.inj H
    go_wp2
    go_ret
    exact ⟨by first | rfl | (simp; done) | (simp [*]; done), by repeat (first | exact Drawn0.refl _ | apply Drawn0.step)⟩
   rw [if_pos c2] at H
   have c2b0 := zT c2
   clear c2
   by_cases c3 : 0 ≤ x3_1
   rotate_left
   ·rw [if_neg c3] at H
    exact absurd H (by simp)
   rw [if_pos c3] at H
   have c3b0 := zT c3
   clear c3
   by_cases c4 : (rd l0 x3_1) = 0
   rotate_left
   ·rw [if_neg c4] at H
    have c4b0 : ((rd l0 x3_1) == 0) = false := beq_eq_false_iff_ne.mpr c4
    have c4b1 : ((rd l0 x3_1) != 0) = true := bne_iff_ne.mpr c4
    obtain rfl := Option.some.inj H
    have p171 : 0 ≤ (x3_1 : Int) := zI (by first | (with_reducible assumption) | assumption)
    have q171 : x3_1 < (l0.length : Int) := zI (by first | (with_reducible assumption) | assumption)
    obtain ⟨ad171, e171, hx171_0⟩ := Kd.at_int HR0.out x3_1 p171 q171
    cases e171
    replace p171 := eq_true p171
    replace q171 := eq_true q171
    go_wp2
    go_ret
    exact ⟨by first | rfl | (simp; done) | (simp [*]; done), by repeat (first | exact Drawn0.refl _ | apply Drawn0.step)⟩
   rw [if_pos c4] at H
   have c4b0 : ((rd l0 x3_1) == 0) = true := beq_iff_eq.mpr c4
   have c4b1 : ((rd l0 x3_1) != 0) = false := bne_eq_false_iff_eq.mpr c4
   clear c4
   have H' := zA H
   clear H
   have p171 : 0 ≤ (x3_1 : Int) := zI (by first | (with_reducible assumption) | assumption)
   have q171 : x3_1 < (l0.length : Int) := zI (by first | (with_reducible assumption) | assumption)
   obtain ⟨ad171, e171, hx171_0⟩ := Kd.at_int HR0.out x3_1 p171 q171
   cases e171
   replace p171 := eq_true p171
   replace q171 := eq_true q171
   go_wp2
   go_roundg k1
   case measure => have := HK1.out; omega
   case rel => exact ⟨(wrap64 (x3_1 + 1)), rfl, H', ⟨by have := HK1.out; omega⟩, by repeat (first | exact Drawn0.refl _ | apply Drawn0.step)⟩
theorem spec_l11Zero.l0_ev (l : List Int) (hl : l.length ≤ 100000000) : ∀ (d i : Nat), i + d = l.length → Ev (fun k => spec_l11Zero.l0 k l (i : Int)) (allW 0 0 (l.drop i)) := by
 intro d
 induction d with
 | zero =>
  intro i hi
  refine Ev.step (fun _ => by rw [spec_l11Zero.l0]) (Ev.ng (by omega) (Ev.eq (Ev.now _) ?_))
  rw [show i = l.length by omega, List.drop_length]; rfl
 | succ d ih =>
  intro i hi
  have h : i < l.length := by omega
  rw [List.drop_eq_getElem_cons h]
  refine Ev.step (fun _ => by rw [spec_l11Zero.l0]) (Ev.ip (by omega) (Ev.ip (by omega) ?_))
  rw [rd_nat l i h]
  by_cases ha : l[i] = 0
  ·refine Ev.ip ha ?_
   rw [wrap_succ i (by omega)]
   refine Ev.eq (ih (i + 1) (by omega)) ?_
   rw [allW, allW, List.all_cons, ha]; rfl
  refine Ev.ng ha (Ev.eq (Ev.now _) ?_)
  rw [allW, List.all_cons, show (decide (0 ≤ l[i]) && decide (l[i] ≤ 0)) = false by rw [Bool.and_eq_false_iff, decide_eq_false_iff_not, decide_eq_false_iff_not]; omega, Bool.false_and]
theorem spec_l11Zero.ev (l : List Int) (hl : l.length ≤ 100000000) : Ev (fun k => spec_l11Zero.f k l) (allW 0 0 l) := spec_l11Zero.l0_ev l hl l.length 0 (Nat.zero_add _)
end Go.Proofs.YtilimpjcdeeaiaaGreat.G


namespace Go.Proofs.YtilimpjcdeeaiaaGreat.G
open Go.RowKit Go.Proofs.YtilimpjcdeeaiaaGreatW.PrintWords Go.Proofs.YtilimpjcdeeaiaaGreatW.PrintLast Go.Proofs.YtilimpjcdeeaiaaGreatW.PrintMore
attribute [local go_sem] max2_int min2_int max_two min_two max_three min_three max_four min_four   -- for this text's walks alone
def fhM (l : List SC) : Int := l.foldl (fun a c => mx a c.f1) 1
def fvM (l : List SC) : Int := l.foldl (fun a c => mx a c.f2) 1
def upM (n d : Int) : Int := Int.tdiv (n + d - 1) d
def blkW (w : Int) (l : List SC) (c : SC) : Int := upM w (8 * fhM l) * c.f1
def blkH (h : Int) (l : List SC) (c : SC) : Int := upM h (8 * fvM l) * c.f2
def needW (w : Int) (l : List SC) (c : SC) : Int := upM (upM (w * c.f1) (fhM l)) 8
def needH (h : Int) (l : List SC) (c : SC) : Int := upM (upM (h * c.f2) (fvM l)) 8
def isLv (b : List Int) : Bool := decide (b.length = 64) && allW (-16383) 16383 b
def hidM (bw nw nh : Int) (i : Nat) : Bool := decide (nh ≤ Int.tdiv i bw) || decide (nw ≤ Int.tmod i bw)
def blocksGo (bw nw nh : Int) : List (List Int) → Nat → Bool
 | [], _ => true
 | b :: r, i => (isLv b && (!hidM bw nw nh i || allW 0 0 b)) && blocksGo bw nw nh r (i + 1)
def planeOkM (w h : Int) (l : List SC) (c : SC) (p : List (List Int)) : Bool := decide ((p.length : Int) = blkW w l c * blkH h l c) && blocksGo (blkW w l c) (needW w l c) (needH h l c) p 0
def planesGo (w h : Int) (l : List SC) : List SC → List (List (List Int)) → Bool
 | c :: cs, p :: ps => planeOkM w h l c p && planesGo w h l cs ps
 | _, _ => true
def coefsOkM (p w h r : Int) (l : List SC) (pl : List (List (List Int))) : Bool := frameOkM p w h r l && (decide (pl.length = l.length) && planesGo w h l l pl)
theorem upM_in (n d : Int) (h1 : 1 ≤ n) (h2 : 1 ≤ d) : 1 ≤ upM n d ∧ upM n d ≤ n := by
 unfold upM
 rw [Int.tdiv_eq_ediv_of_nonneg (by omega)]
 constructor
 ·exact (Int.le_ediv_iff_mul_le (by omega)).2 (by omega)
 ·have hm : n * 1 ≤ n * d := Int.mul_le_mul_of_nonneg_left h2 (by omega)
  have e : (n + 1) * d = n * d + d := by rw [Int.add_mul, Int.one_mul]
  have : (n + d - 1) / d < n + 1 := (Int.ediv_lt_iff_lt_mul (by omega)).2 (by rw [e]; omega)
  omega
theorem mx_in (a b : Int) (h1 : 1 ≤ a) (h2 : a ≤ 4) (h4 : b ≤ 4) : 1 ≤ mx a b ∧ mx a b ≤ 4 := by
 unfold mx; split <;> omega
theorem foldM_in (g : SC → Int) (l : List SC) (h : ∀ c ∈ l, g c ≤ 4) : ∀ a : Int, 1 ≤ a → a ≤ 4 → 1 ≤ l.foldl (fun a c => mx a (g c)) a ∧ l.foldl (fun a c => mx a (g c)) a ≤ 4 := by
 induction l with
 | nil => intro a h1 h2; exact ⟨h1, h2⟩
 | cons c r ih =>
  intro a h1 h2
  have := mx_in a (g c) h1 h2 (h c List.mem_cons_self)
  exact ih (fun c hc => h c (List.mem_cons_of_mem _ hc)) _ this.1 this.2
theorem compsGo_all (l : List SC) : ∀ (d i : Nat) (s : Int), i + d = l.length → compsGo l i d s = true → ∀ c ∈ l.drop i, compOk c = true := by
 intro d
 induction d with
 | zero =>
  intro i s hi _ c hc
  rw [List.drop_of_length_le (by omega)] at hc
  cases hc
 | succ d ih =>
  intro i s hi hq c hc
  have hlt : i < l.length := by omega
  rw [compsGo, Bool.and_eq_true, Bool.and_eq_true, show rd_T53 l (i : Int) = l[i] by simp [rd_T53, hlt]] at hq
  rw [List.drop_eq_getElem_cons hlt, List.mem_cons] at hc
  rcases hc with rfl | hc
  ·exact hq.1
  ·exact ih (i + 1) _ (by omega) hq.2.2 c hc
/-- what is known of a frame that is right -/
structure Fr (w h : Int) (l : List SC) : Prop where
 w1 : 1 ≤ w
 w2 : w ≤ 256
 h1 : 1 ≤ h
 h2 : h ≤ 256
 n1 : 1 ≤ l.length
 n2 : l.length ≤ 4
 c : ∀ c ∈ l, compOk c = true
theorem Fr.of {p w h r : Int} {l : List SC} (q : frameOkM p w h r l = true) : Fr w h l := by
 have hn := frameOk_len q
 unfold frameOkM frameHead headOk at q
 simp only [Bool.and_eq_true, Bool.or_eq_true, decide_eq_true_eq] at q
 obtain ⟨⟨q0, _⟩, g⟩ := q
 have a1 : 1 ≤ w := by omega
 have a2 : w ≤ 256 := by omega
 have a3 : 1 ≤ h := by omega
 have a4 : h ≤ 256 := by omega
 exact ⟨a1, a2, a3, a4, hn.1, hn.2, compsGo_all l l.length 0 0 (by omega) g⟩
theorem Fr.hm {w h : Int} {l : List SC} (q : Fr w h l) : 1 ≤ fhM l ∧ fhM l ≤ 4 := foldM_in (·.f1) l (fun c hc => (compOk_of (q.c c hc)).2.1.2) 1 (by omega) (by omega)
theorem Fr.vm {w h : Int} {l : List SC} (q : Fr w h l) : 1 ≤ fvM l ∧ fvM l ≤ 4 := foldM_in (·.f2) l (fun c hc => (compOk_of (q.c c hc)).2.2.1.2) 1 (by omega) (by omega)
theorem mul_4 (a b n : Int) (h1 : 1 ≤ a) (h2 : a ≤ n) (h3 : 1 ≤ b) (h4 : b ≤ 4) : 1 ≤ a * b ∧ a * b ≤ 4 * n := by
 constructor
 ·have := Int.mul_le_mul h1 h3 (by omega) (by omega); omega
 ·have := Int.mul_le_mul h2 h4 (by omega) (by omega); omega
theorem Fr.bw {w h : Int} {l : List SC} (q : Fr w h l) (c : SC) (hc : c ∈ l) : 1 ≤ blkW w l c ∧ blkW w l c ≤ 1024 := by
 have a := upM_in w (8 * fhM l) q.w1 (by have := q.hm; omega)
 have b := compOk_of (q.c c hc)
 have := mul_4 _ c.f1 256 a.1 (by have := q.w2; omega) b.2.1.1 b.2.1.2
 unfold blkW; omega
theorem Fr.bh {w h : Int} {l : List SC} (q : Fr w h l) (c : SC) (hc : c ∈ l) : 1 ≤ blkH h l c ∧ blkH h l c ≤ 1024 := by
 have a := upM_in h (8 * fvM l) q.h1 (by have := q.vm; omega)
 have b := compOk_of (q.c c hc)
 have := mul_4 _ c.f2 256 a.1 (by have := q.h2; omega) b.2.2.1.1 b.2.2.1.2
 unfold blkH; omega
theorem mul_1024 (a b : Int) (h1 : 1 ≤ a) (h2 : a ≤ 1024) (h3 : 1 ≤ b) (h4 : b ≤ 1024) : 1 ≤ a * b ∧ a * b ≤ 1048576 := by
 constructor
 ·have := Int.mul_le_mul h1 h3 (by omega) (by omega); omega
 ·have := Int.mul_le_mul h2 h4 (by omega) (by omega); omega
theorem Fr.area {w h : Int} {l : List SC} (q : Fr w h l) (c : SC) (hc : c ∈ l) : 1 ≤ blkW w l c * blkH h l c ∧ blkW w l c * blkH h l c ≤ 1048576 :=
 mul_1024 _ _ (q.bw c hc).1 (q.bw c hc).2 (q.bh c hc).1 (q.bh c hc).2
theorem rdC_nat (l : List SC) (i : Nat) (h : i < l.length) : rd_T53 l (i : Int) = l[i] := by simp [rd_T53, h]
theorem rdL2_nat (l : List (List Int)) (i : Nat) (h : i < l.length) : rd_L2 l (i : Int) = l[i] := by simp [rd_L2, h]
theorem rdL3_nat (l : List (List (List Int))) (i : Nat) (h : i < l.length) : rd_L3 l (i : Int) = l[i] := by simp [rd_L3, h]
def tabM (q : List Int) : Bool := decide (q.length = 64) && allW 1 1023 q
end Go.Proofs.YtilimpjcdeeaiaaGreat.G


namespace Go.Proofs.YtilimpjcdeeaiaaGreat.G
open Go.RowKit Go.Proofs.YtilimpjcdeeaiaaGreatW.PrintWords Go.Proofs.YtilimpjcdeeaiaaGreatW.PrintLast Go.Proofs.YtilimpjcdeeaiaaGreatW.PrintMore
attribute [local go_sem] max2_int min2_int max_two min_two max_three min_three max_four min_four   -- for this text's walks alone
mutual
def spec_CoefsOk.j0 : Nat → Bool → Int → Int → Int → Int → List (S53) → List (List (List Int)) → Option (Bool)
 | 0, _, _, _, _, _, _, _ => none
 | k + 1, x21, x173000, x173001, x173002, x173003, x173004, x174000 => if x21 = true then (some false) else (spec_CoefsOk.l0 k 0 x173000 x173001 x173002 x173003 x173004 x174000)
def spec_CoefsOk.l0 : Nat → Int → Int → Int → Int → Int → List (S53) → List (List (List Int)) → Option (Bool)
 | 0, _, _, _, _, _, _, _ => none
 | k + 1, x5, x173000, x173001, x173002, x173003, x173004, x174000 => if x5 < (x174000.length : Int) then ((spec_l04Blocks.f k x173000 x173001 x173002 x173003 x173004 x5).bind fun bt175 => (if 0 ≤ x5 then (if ((rd_L3 x174000 x5).length : Int) = (wrap64 (bt175.1 * bt175.2)) then (spec_CoefsOk.l1 k x5 bt175.1 bt175.2 0 x173000 x173001 x173002 x173003 x173004 x174000) else (some false)) else (none))) else (some true)
def spec_CoefsOk.l1 : Nat → Int → Int → Int → Int → Int → Int → Int → Int → List (S53) → List (List (List Int)) → Option (Bool)
 | 0, _, _, _, _, _, _, _, _, _, _ => none
 | k + 1, x5, x6, x7, x8, x173000, x173001, x173002, x173003, x173004, x174000 => if x8 < (wrap64 (x6 * x7)) then (if 0 ≤ x5 then (if x5 < (x174000.length : Int) then (if 0 ≤ x8 then (if x8 < ((rd_L3 x174000 x5).length : Int) then ((spec_l11Level.f k (rd_L2 (rd_L3 x174000 x5) x8)).bind fun t180 => (if t180 = true then (if x6 = 0 then (none) else ((spec_l11Hidden.f k x173000 x173001 x173002 x173003 x173004 x5 (wrap64 (Int.tdiv x8 x6)) (Int.tmod x8 x6)).bind fun t181 => (if t181 = true then ((spec_l11Zero.f k (rd_L2 (rd_L3 x174000 x5) x8)).bind fun t182 => (if t182 = true then (spec_CoefsOk.l1 k x5 x6 x7 (wrap64 (x8 + 1)) x173000 x173001 x173002 x173003 x173004 x174000) else (some false))) else (spec_CoefsOk.l1 k x5 x6 x7 (wrap64 (x8 + 1)) x173000 x173001 x173002 x173003 x173004 x174000)))) else (some false))) else (none)) else (none)) else (none)) else (none)) else (spec_CoefsOk.l0 k (wrap64 (x5 + 1)) x173000 x173001 x173002 x173003 x173004 x174000)
end
def spec_CoefsOk.f (k : Nat) (a0_0 : Int) (a0_1 : Int) (a0_2 : Int) (a0_3 : Int) (l0_4 : List (S53)) (l1_0 : List (List (List Int))) : Option (Bool) := (spec_FrameOk.f k a0_0 a0_1 a0_2 a0_3 l0_4).bind fun t174 => (if t174 = true then (spec_CoefsOk.j0 k ((l1_0.length : Int) != (l0_4.length : Int)) a0_0 a0_1 a0_2 a0_3 l0_4 l1_0) else (spec_CoefsOk.j0 k true a0_0 a0_1 a0_2 a0_3 l0_4 l1_0))
def spec_CoefsOk.T13 : Bool × List (List Nat × List Nat) := (true, [([], []), ([0], [0]), ([1], [1]), ([2, 1], [2]), ([3], [3]), ([3], [3]), ([3], [3]), ([3], [3]), ([6, 7, 3], [3, 6, 7]), ([3], [3]), ([3], [3]), ([9, 10, 3], [3, 9, 10]), ([5, 8, 11, 3], [3, 5, 8, 11]), ([4, 12, 3, 3], [3, 4, 12]), ([13, 13, 3], [3, 13]), ([14], [14]), ([15, 14, 14], [14, 15]), ([16, 14], [14, 16]), ([14, 17, 3], [3, 14, 17]), ([3, 18], [3, 18])])
def spec_CoefsOk.B13 : List Nat := [0, 1, 3, 7, 15, 15, 15, 15, 207, 15, 15, 1551, 4079, 8191, 16383, 32767, 65535, 131071, 262143, 524287]
theorem spec_CoefsOk.tab13 : rtab .any (opsOf Tryz.f37 13) = spec_CoefsOk.T13 := by kernel_rfl
theorem spec_CoefsOk.bits13 : waitsOk spec_CoefsOk.T13.2 spec_CoefsOk.B13 = true := by kernel_rfl
set_option maxHeartbeats 8000000 in
set_option maxRecDepth 100000 in
theorem spec_CoefsOk.calls (k : Nat) (a0_0 : Int) (a0_1 : Int) (a0_2 : Int) (a0_3 : Int) (A0_4 : Option Addr) (c0_4 : Nat) (l0_4 : List (S53)) (A1_0 : Option Addr) (c1_0 : Nat) (l1_0 : List (List (List Int))) (r : Bool) (w : World) (hr0_4 : Kd.C k53 w A0_4 l0_4.length l0_4) (hc0_4 : l0_4.length ≤ c0_4) (hr1_0 : Kd.C (Kd.slice 66 (Kd.slice 3 (Kd.int .i64))) w A1_0 l1_0.length l1_0) (hc1_0 : l1_0.length ≤ c1_0) (h : spec_CoefsOk.f k a0_0 a0_1 a0_2 a0_3 l0_4 l1_0 = some r) :
  Calls Tryz.prog 37 #[.agg #[.int .i64 a0_0, .int .i64 a0_1, .int .i64 a0_2, .int .i64 a0_3, .slice A0_4 l0_4.length c0_4], .agg #[.slice A1_0 l1_0.length c1_0]] w fun e w' => e = .returned (.bool r) ∧ Below w.heap.size w w' := by
 have hu37 := Tryz.underlying37
 have hu38 := Tryz.underlying38
 have hu90 := Tryz.underlying90
 have HR0_4 := zA hr0_4
 have HC0_4 := zA hc0_4
 clear hr0_4 hc0_4
 have HR1_0 := zA hr1_0
 have HC1_0 := zA hc1_0
 clear hr1_0 hc1_0
 have HB := zA (Below.refl w.heap.size w)
 have H : ((spec_FrameOk.f k a0_0 a0_1 a0_2 a0_3 l0_4).bind fun t174 => (if t174 = true then (spec_CoefsOk.j0 k ((l1_0.length : Int) != (l0_4.length : Int)) a0_0 a0_1 a0_2 a0_3 l0_4 l1_0) else (spec_CoefsOk.j0 k true a0_0 a0_1 a0_2 a0_3 l0_4 l1_0))) = some r := h
 clear h
 have HC3 := zA H
 clear H
 go_enter Tryz.func37, Tryz.ntmps37
 go_upto_region 1 with (first | ((with_reducible refine gate_dst (N := 2) rfl ?_); refine nxX (N := 2) (cs := #[.int .i64 a0_0, .int .i64 a0_1, .int .i64 a0_2, .int .i64 a0_3, .slice A0_4 l0_4.length c0_4]) (t := 37) ?_; intro gb172 hg w4 hbox hb; have BK172 := zA (hbox); have GE172 := nxG HB hg; replace HB := nxH hb HB; clear hb hbox hg) | ((with_reducible refine gate_dst (N := 3) rfl ?_); refine nxX (N := 3) (cs := #[.slice A1_0 l1_0.length c1_0]) (t := 38) ?_; intro gb173 hg w5 hbox hb; have BK173 := zA (hbox); have GE173 := nxG HB hg; have NB172_173 := nxL BK172 hg; have NB173_172 := nxK BK172 hg; replace BK172 := nxB hb BK172; replace HB := nxH hb HB; clear hb hbox hg))
 (try simp only [Act.put, List.setIfInBounds_toArray, List.set_cons_zero, List.set_cons_succ])
 go_cut [21] (fun v21 wc => ∃ (kq : Nat) (x21_2 : Bool), v21 = .bool x21_2 ∧ Aside0 (spec_CoefsOk.j0 kq x21_2 a0_0 a0_1 a0_2 a0_3 l0_4 l1_0 = some r) ∧ Aside0 (kq ≤ k) ∧ Aside0 (wc.heap[gb172]? = some (.cells #[.int .i64 a0_0, .int .i64 a0_1, .int .i64 a0_2, .int .i64 a0_3, (.slice A0_4 l0_4.length c0_4)] 37 (0, 0))) ∧ Aside0 (wc.heap[gb173]? = some (.cells #[(.slice A1_0 l1_0.length c1_0)] 38 (0, 0))) ∧ Aside0 (Below w.heap.size w wc))
 case first =>
  have H := HC3.out
  clear HC3
  replace H := Option.bind_eq_some_iff.mp H
  obtain ⟨t174, A60, H⟩ := H
  try dsimp only at H
  have A6 := zA A60
  clear A60
  by_cases c7 : t174 = true
  ·subst c7
   rw [if_pos rfl] at H
   have H' := zA H
   clear H
   have hnb8 := NB172_173.out
   have hnc8 := NB173_172.out
   obtain ⟨hcz9_0, hcz9_1, hcz9_2, hcz9_3, hcz9_4⟩ := cz5 BK172
   go_wp2_with (first | ((with_reducible refine gate_callee (f := 36) rfl ?_); refine goesL_ (some 11) rfl rfl Tryz.func36 (by kernel_rfl) rfl #[.agg #[.int .i64 a0_0, .int .i64 a0_1, .int .i64 a0_2, .int .i64 a0_3, .slice A0_4 l0_4.length c0_4]] rfl (by (try simp only [zU, zV, zW]); first | done | rfl | (simp only [zR, zQ]; rfl)) ?_; (with_reducible refine (spec_FrameOk.calls k a0_0 a0_1 a0_2 a0_3 _ _ l0_4 true _ ?side1 ?side2 A6.out).mono ?_); (case side1 => exact nxC HR0_4 HB); (case side2 => exact HC0_4.out); rintro e w10 ⟨rfl, hb⟩; refine ⟨_, rfl, ?_⟩; replace BK172 := nxB hb BK172; replace BK173 := nxB hb BK173; replace HB := nxH hb HB; (try clear hb); (try clear hb2); (try clear hk); (try clear hi); have hcz11_0 : w10.cell? ⟨gb173, 0, none⟩ = some (.slice A1_0 l1_0.length c1_0) := (zK BK173.out 0).trans rfl; obtain ⟨hcz12_0, hcz12_1, hcz12_2, hcz12_3, hcz12_4⟩ := cz5 BK172))
   go_meet
   case rel => exact ⟨_, (((l1_0.length : Int) != (l0_4.length : Int))), rfl, H', ⟨Nat.le_refl _⟩, ⟨BK172.out⟩, ⟨BK173.out⟩, ⟨nxD HB⟩⟩
  ·replace c7 := Bool.eq_false_iff.mpr c7
   subst c7
   rw [if_neg (show ¬ (false = true) by decide)] at H
   have H' := zA H
   clear H
   have hnb13 := NB172_173.out
   have hnc13 := NB173_172.out
   obtain ⟨hcz14_0, hcz14_1, hcz14_2, hcz14_3, hcz14_4⟩ := cz5 BK172
   go_wp2_with (first | ((with_reducible refine gate_callee (f := 36) rfl ?_); refine goesL_ (some 11) rfl rfl Tryz.func36 (by kernel_rfl) rfl #[.agg #[.int .i64 a0_0, .int .i64 a0_1, .int .i64 a0_2, .int .i64 a0_3, .slice A0_4 l0_4.length c0_4]] rfl (by (try simp only [zU, zV, zW]); first | done | rfl | (simp only [zR, zQ]; rfl)) ?_; (with_reducible refine (spec_FrameOk.calls k a0_0 a0_1 a0_2 a0_3 _ _ l0_4 false _ ?side1 ?side2 A6.out).mono ?_); (case side1 => exact nxC HR0_4 HB); (case side2 => exact HC0_4.out); rintro e w15 ⟨rfl, hb⟩; refine ⟨_, rfl, ?_⟩; replace BK172 := nxB hb BK172; replace BK173 := nxB hb BK173; replace HB := nxH hb HB; (try clear hb); (try clear hb2); (try clear hk); (try clear hi)))
   go_meet
   case rel => exact ⟨_, (true), rfl, H', ⟨Nat.le_refl _⟩, ⟨BK172.out⟩, ⟨BK173.out⟩, ⟨nxD HB⟩⟩
 case rest =>
  clear HC3
  obtain ⟨kq, x21_2, rfl, HA, HJ2, BK172, BK173, HB⟩ := hcut
  cases kq with
  | zero => exact absurd HA.out (by simp [spec_CoefsOk.j0])
  | succ kj2 =>
   have H := HA.out
   clear HA
   simp only [spec_CoefsOk.j0] at H
   by_cases c16 : x21_2 = true
   ·subst c16
    rw [if_pos rfl] at H
    obtain rfl := Option.some.inj H
    go_wp2
    go_ret
    exact ⟨rfl, nxD HB⟩
   ·replace c16 := Bool.eq_false_iff.mpr c16
    subst c16
    rw [if_neg (show ¬ (false = true) by decide)] at H
    have H' := zA H
    clear H
    go_wp2
    go_loopg [5] kj2 (fun kq v5 w' => ∃ (x5_2 : Int), v5 = .int .i64 x5_2 ∧ Aside0 (spec_CoefsOk.l0 kq x5_2 a0_0 a0_1 a0_2 a0_3 l0_4 l1_0 = some r) ∧ Aside0 (kq ≤ kj2) ∧ Aside0 (w'.heap[gb172]? = some (.cells #[.int .i64 a0_0, .int .i64 a0_1, .int .i64 a0_2, .int .i64 a0_3, (.slice A0_4 l0_4.length c0_4)] 37 (0, 0))) ∧ Aside0 (w'.heap[gb173]? = some (.cells #[(.slice A1_0 l1_0.length c1_0)] 38 (0, 0))) ∧ Aside0 (Below w.heap.size w w'))
    case atStart => exact ⟨(0), rfl, H', ⟨Nat.le_refl _⟩, ⟨BK172.out⟩, ⟨BK173.out⟩, ⟨nxD HB⟩⟩
    case round =>
     clear H'
     obtain ⟨x5_2, rfl, HA, HK2, BK172, BK173, HB⟩ := hrel
     cases gk with
     | zero => exact absurd HA.out (by simp [spec_CoefsOk.l0])
     | succ k2 =>
      have H := HA.out
      clear HA
      simp only [spec_CoefsOk.l0] at H
      by_cases c17 : x5_2 < (l1_0.length : Int)
      ·rw [if_pos c17] at H
       have c17b0 := zT c17
       clear c17
       replace H := Option.bind_eq_some_iff.mp H
       obtain ⟨⟨t175, t176⟩, A180, H⟩ := H
       try dsimp only at H
       have A18 := zA A180
       clear A180
       by_cases c19 : 0 ≤ x5_2
       ·rw [if_pos c19] at H
        have c19b0 := zT c19
        clear c19
        have HF20 := zA H
        clear H
        have hnb21 := NB173_172.out
        have hnc21 := NB172_173.out
        have hcz22_0 : wr.cell? ⟨gb173, 0, none⟩ = some (.slice A1_0 l1_0.length c1_0) := (zK BK173.out 0).trans rfl
        obtain ⟨hcz23_0, hcz23_1, hcz23_2, hcz23_3, hcz23_4⟩ := cz5 BK172
        go_upto_if 44 with (first | ((with_reducible refine gate_callee (f := 57) rfl ?_); refine goesL_ (some 32) rfl rfl Tryz.func57 (by kernel_rfl) rfl #[.agg #[.int .i64 a0_0, .int .i64 a0_1, .int .i64 a0_2, .int .i64 a0_3, .slice A0_4 l0_4.length c0_4], .int .i64 x5_2] rfl (by (try simp only [zU, zV, zW]); first | done | rfl | (simp only [zR, zQ]; rfl)) ?_; (with_reducible refine (spec_l04Blocks.calls k2 a0_0 a0_1 a0_2 a0_3 _ _ l0_4 x5_2 t175 t176 _ ?side1 ?side2 A18.out).mono ?_); (case side1 => exact nxC HR0_4 HB); (case side2 => exact HC0_4.out); rintro e w24 ⟨rfl, hb⟩; refine ⟨_, rfl, ?_⟩; replace BK172 := nxB hb BK172; replace BK173 := nxB hb BK173; replace HB := nxH hb HB; (try clear hb); (try clear hb2); (try clear hk); (try clear hi); have hcz25_0 : w24.cell? ⟨gb173, 0, none⟩ = some (.slice A1_0 l1_0.length c1_0) := (zK BK173.out 0).trans rfl; have p177 : 0 ≤ (x5_2 : Int) := zI (by first | (with_reducible assumption) | assumption); have q177 : x5_2 < (l1_0.length : Int) := zI (by first | (with_reducible assumption) | assumption); obtain ⟨ad177, A177_0, c177_0, e177, hx177_0, hl177_0, hi177_0⟩ := at_L3 HR1_0.out x5_2 p177 q177; cases e177; replace hx177_0 := (HB.out.cell (World.block_lt_of_cell? w _ hx177_0)).trans hx177_0; have HR177_0 := zA hi177_0; have HC177_0 := zA hl177_0; clear hi177_0 hl177_0; replace p177 := eq_true p177; replace q177 := eq_true q177))
        have H := HF20.out
        clear HF20
        by_cases c26 : ((rd_L3 l1_0 x5_2).length : Int) = (wrap64 (t175 * t176))
        ·rw [if_pos c26] at H
         have c26b0 : (((rd_L3 l1_0 x5_2).length : Int) == (wrap64 (t175 * t176))) = true := beq_iff_eq.mpr c26
         have c26b1 : (((rd_L3 l1_0 x5_2).length : Int) != (wrap64 (t175 * t176))) = false := bne_eq_false_iff_eq.mpr c26
         clear c26
         (first | rw [c26b0] | rw [c26b1] | (simp only [i64_w, i32_w]; first | rw [c26b0] | rw [c26b1]) | skip)
         have H' := zA H
         clear H
         go_wp2
         go_loopg [8] k2 (fun kq v8 w' => ∃ (x8_3 : Int), v8 = .int .i64 x8_3 ∧ Aside0 (spec_CoefsOk.l1 kq x5_2 t175 t176 x8_3 a0_0 a0_1 a0_2 a0_3 l0_4 l1_0 = some r) ∧ Aside0 (kq ≤ k2) ∧ Aside0 (w'.heap[gb172]? = some (.cells #[.int .i64 a0_0, .int .i64 a0_1, .int .i64 a0_2, .int .i64 a0_3, (.slice A0_4 l0_4.length c0_4)] 37 (0, 0))) ∧ Aside0 (w'.heap[gb173]? = some (.cells #[(.slice (some ad177) l1_0.length c1_0)] 38 (0, 0))) ∧ Aside0 (Below w.heap.size w w'))
         case atStart => exact ⟨(0), rfl, H', ⟨Nat.le_refl _⟩, ⟨BK172.out⟩, ⟨BK173.out⟩, ⟨nxD HB⟩⟩
         case round =>
          clear H'
          obtain ⟨x8_3, rfl, HA, HK3, BK172, BK173, HB⟩ := hrel
          cases gk with
          | zero => exact absurd HA.out (by simp [spec_CoefsOk.l1])
          | succ k3 =>
           have H := HA.out
           clear HA
           simp only [spec_CoefsOk.l1] at H
           by_cases c27 : x8_3 < (wrap64 (t175 * t176))
           ·rw [if_pos c27] at H
            have c27b0 := zT c27
            clear c27
            by_cases c28 : 0 ≤ x5_2
            ·rw [if_pos c28] at H
             have c28b0 := zT c28
             clear c28
             by_cases c29 : x5_2 < (l1_0.length : Int)
             ·rw [if_pos c29] at H
              have c29b0 := zT c29
              clear c29
              by_cases c30 : 0 ≤ x8_3
              ·rw [if_pos c30] at H
               have c30b0 := zT c30
               clear c30
               by_cases c31 : x8_3 < ((rd_L3 l1_0 x5_2).length : Int)
               ·rw [if_pos c31] at H
                have c31b0 := zT c31
                clear c31
                replace H := Option.bind_eq_some_iff.mp H
                obtain ⟨t180, A320, H⟩ := H
                try dsimp only at H
                have A32 := zA A320
                clear A320
                by_cases c33 : t180 = true
                ·subst c33
                 rw [if_pos rfl] at H
                 by_cases c34 : t175 = 0
                 ·rw [if_pos c34] at H
                  exact absurd H (by simp)
                 ·rw [if_neg c34] at H
                  have c34b0 : (t175 == 0) = false := beq_eq_false_iff_ne.mpr c34
                  have c34b1 : (t175 != 0) = true := bne_iff_ne.mpr c34
                  replace H := Option.bind_eq_some_iff.mp H
                  obtain ⟨t181, A350, H⟩ := H
                  try dsimp only at H
                  have A35 := zA A350
                  clear A350
                  by_cases c36 : t181 = true
                  ·subst c36
                   rw [if_pos rfl] at H
                   replace H := Option.bind_eq_some_iff.mp H
                   obtain ⟨t182, A370, H⟩ := H
                   try dsimp only at H
                   have A37 := zA A370
                   clear A370
                   have HF38 := zA H
                   clear H
                   have hnb39 := NB173_172.out
                   have hnc39 := NB172_173.out
                   have hcz40_0 : wr.cell? ⟨gb173, 0, none⟩ = some (.slice (some ad177) l1_0.length c1_0) := (zK BK173.out 0).trans rfl
                   have p178 : 0 ≤ (x5_2 : Int) := zI (by first | (with_reducible assumption) | assumption)
                   have q178 : x5_2 < (l1_0.length : Int) := zI (by first | (with_reducible assumption) | assumption)
                   obtain ⟨ad178, A178_0, c178_0, e178, hx178_0, hl178_0, hi178_0⟩ := at_L3 HR1_0.out x5_2 p178 q178
                   obtain rfl : ad177 = ad178 := (by injection e178)
                   replace hx178_0 := (HB.out.cell (World.block_lt_of_cell? w _ hx178_0)).trans hx178_0
                   have HR178_0 := zA hi178_0
                   have HC178_0 := zA hl178_0
                   clear hi178_0 hl178_0
                   replace p178 := eq_true p178
                   replace q178 := eq_true q178
                   have p179 : 0 ≤ (x8_3 : Int) := zI (by first | (with_reducible assumption) | assumption)
                   have q179 : x8_3 < ((rd_L3 l1_0 x5_2).length : Int) := zI (by first | (with_reducible assumption) | assumption)
                   obtain ⟨ad179, A179_0, c179_0, e179, hx179_0, hl179_0, hi179_0⟩ := at_L2 HR178_0.out x8_3 p179 q179
                   cases e179
                   replace hx179_0 := (HB.out.cell (World.block_lt_of_cell? w _ hx179_0)).trans hx179_0
                   have HR179_0 := zA hi179_0
                   have HC179_0 := zA hl179_0
                   clear hi179_0 hl179_0
                   replace p179 := eq_true p179
                   replace q179 := eq_true q179
                   try go_wp2
                   replace BK172 := zA (zH BK172.out)
                   replace BK173 := zA (zH BK173.out)
                   replace HB := zA (zF HB.out)
                   refine start_ (n := 20) (S := fun w' => w'.cell? ⟨gb172, 0, none⟩ = some (.int .i64 a0_0) ∧ w'.cell? ⟨gb172, 1, none⟩ = some (.int .i64 a0_1) ∧ w'.cell? ⟨gb172, 2, none⟩ = some (.int .i64 a0_2) ∧ w'.cell? ⟨gb172, 3, none⟩ = some (.int .i64 a0_3) ∧ w'.cell? ⟨gb172, 4, none⟩ = some (.slice A0_4 l0_4.length c0_4)) (ds := []) #[false, false, false, false, false, false, false, false, false, false, false, false, false, false, false, false, false, false, false, false] (by kernel_rfl) rfl rfl (cz5 BK172) (fun hHeld => ?_); refine with_tabW spec_CoefsOk.tab13 spec_CoefsOk.bits13 (fun HT_ HW_ => ?_)
                   generalize wr.drew = w41 at BK172 BK173 HB hHeld ⊢
                   refine nxY 0 60 HT_ rfl rfl ?_
                   refine nxO 1 61 HT_ rfl rfl (fun K hK => ?_)
                   refine goes_ Tryz.func58 (by kernel_rfl) rfl #[.slice A179_0 (rd_L2 (rd_L3 l1_0 x5_2) x8_3).length c179_0] (by rfl) rfl rfl (by (try simp only [zU, zV, zW]); first | done | rfl | (simp only [zR, zQ]; rfl)) ?_
                   with_reducible refine (spec_l11Level.calls k3 _ _ (rd_L2 (rd_L3 l1_0 x5_2) x8_3) true _ ?side1 ?side2 A32.out).mono ?_
                   (case side1 => exact nxC HR179_0 HB)
                   (case side2 => exact HC179_0.out)
                   rintro e w' ⟨rfl, ⟨nd, rfl⟩⟩
                   refine ⟨_, rfl, ?_⟩
                   refine hK.out _ _ (cz5 BK172) (fun hHeld => ?_)
                   clear hK K
                   refine nxZ 61 ?_
                   refine nxY 2 62 HT_ rfl rfl ?_
                   refine nxY 3 63 HT_ rfl rfl ?_
                   refine nxY 5 65 HT_ rfl rfl ?_
                   refine nxY 6 66 HT_ rfl rfl ?_
                   refine nxY 7 67 HT_ rfl rfl ?_
                   refine nxY 8 68 HT_ rfl rfl ?_
                   refine nxY 9 69 HT_ rfl rfl ?_
                   refine nxY 10 70 HT_ rfl rfl ?_
                   refine nxY 11 71 HT_ rfl rfl ?_
                   refine nxY 12 72 HT_ rfl rfl ?_
                   refine nxW 4 64 HT_ HW_ hHeld rfl rfl ?_
                   refine nxO 13 73 HT_ rfl rfl (fun K hK => ?_)
                   refine goes_ Tryz.func59 (by kernel_rfl) rfl #[.agg #[.int .i64 a0_0, .int .i64 a0_1, .int .i64 a0_2, .int .i64 a0_3, .slice A0_4 l0_4.length c0_4], .agg #[.int .i64 x5_2, .int .i64 (wrap64 (Int.tdiv x8_3 t175)), .int .i64 (Int.tmod x8_3 t175)]] (by rfl) rfl rfl (by (try simp only [zU, zV, zW]); first | done | rfl | (simp only [zR, zQ]; rfl)) ?_
                   with_reducible refine (spec_l11Hidden.calls k3 a0_0 a0_1 a0_2 a0_3 _ _ l0_4 x5_2 (wrap64 (Int.tdiv x8_3 t175)) (Int.tmod x8_3 t175) true _ ?side1 ?side2 A35.out).mono ?_
                   (case side1 => repeat (first | exact (Kd.C_below HR0_4.out (by repeat (first | (with_reducible first | exact HB.out | apply zC | apply zB | apply zF | refine zE ?_ GE172.out | refine zE ?_ GE173.out) | exact HB.out))) | (with_reducible refine yH ?_ _) | (with_reducible refine yF ?_ _) | (with_reducible refine yG ?_)))
                   (case side2 => exact HC0_4.out)
                   rintro e w42 ⟨rfl, hb⟩
                   refine ⟨_, rfl, ?_⟩
                   replace BK172 := nxB hb BK172
                   replace BK173 := nxB hb BK173
                   replace HB := nxH hb HB
                   refine hK.out _ _ (cz5 BK172) (fun hHeld => ?_)
                   clear hK K
                   refine nxZ 73 ?_
                   refine nxY 14 74 HT_ rfl rfl ?_
                   refine nxY 15 75 HT_ rfl rfl ?_
                   refine nxO 16 76 HT_ rfl rfl (fun K hK => ?_)
                   refine goes_ Tryz.func60 (by kernel_rfl) rfl #[.slice A179_0 (rd_L2 (rd_L3 l1_0 x5_2) x8_3).length c179_0] (by rfl) rfl rfl (by (try simp only [zU, zV, zW]); first | done | rfl | (simp only [zR, zQ]; rfl)) ?_
                   with_reducible refine (spec_l11Zero.calls k3 _ _ (rd_L2 (rd_L3 l1_0 x5_2) x8_3) t182 _ ?side1 ?side2 A37.out).mono ?_
                   (case side1 => exact nxC HR179_0 HB)
                   (case side2 => exact HC179_0.out)
                   rintro e w' ⟨rfl, ⟨nd, rfl⟩⟩
                   refine ⟨_, rfl, ?_⟩
                   refine hK.out _ _ (cz5 BK172) (fun hHeld => ?_)
                   clear hK K
                   refine nxZ 76 ?_
                   refine nxY 17 77 HT_ rfl rfl ?_
                   refine nxY 18 78 HT_ rfl rfl ?_
                   refine nxY 19 79 HT_ rfl rfl ?_
                   refine done_ (done_of HT_.out (by kernel_rfl)) ?_
                   go_upto_if 79 with (fail)
                   have H := HF38.out
                   clear HF38
                   by_cases c43 : t182 = true
                   ·subst c43
                    rw [if_pos rfl] at H
                    have H' := zA H
                    clear H
                    go_wp2
                    go_roundg k3
                    case measure => have := HJ2.out; have := HK2.out; have := HK3.out; omega
                    case rel => exact ⟨(wrap64 (x8_3 + 1)), rfl, H', ⟨by have := HJ2.out; have := HK2.out; have := HK3.out; omega⟩, ⟨BK172.out⟩, ⟨BK173.out⟩, ⟨nxD HB⟩⟩
                   ·replace c43 := Bool.eq_false_iff.mpr c43
                    subst c43
                    rw [if_neg (show ¬ (false = true) by decide)] at H
                    obtain rfl := Option.some.inj H
                    go_wp2
                    go_ret
                    exact ⟨rfl, nxD HB⟩
                  ·replace c36 := Bool.eq_false_iff.mpr c36
                   subst c36
                   rw [if_neg (show ¬ (false = true) by decide)] at H
                   have H' := zA H
                   clear H
                   have hnb44 := NB173_172.out
                   have hnc44 := NB172_173.out
                   have hcz45_0 : wr.cell? ⟨gb173, 0, none⟩ = some (.slice (some ad177) l1_0.length c1_0) := (zK BK173.out 0).trans rfl
                   have p178 : 0 ≤ (x5_2 : Int) := zI (by first | (with_reducible assumption) | assumption)
                   have q178 : x5_2 < (l1_0.length : Int) := zI (by first | (with_reducible assumption) | assumption)
                   obtain ⟨ad178, A178_0, c178_0, e178, hx178_0, hl178_0, hi178_0⟩ := at_L3 HR1_0.out x5_2 p178 q178
                   obtain rfl : ad177 = ad178 := (by injection e178)
                   replace hx178_0 := (HB.out.cell (World.block_lt_of_cell? w _ hx178_0)).trans hx178_0
                   have HR178_0 := zA hi178_0
                   have HC178_0 := zA hl178_0
                   clear hi178_0 hl178_0
                   replace p178 := eq_true p178
                   replace q178 := eq_true q178
                   have p179 : 0 ≤ (x8_3 : Int) := zI (by first | (with_reducible assumption) | assumption)
                   have q179 : x8_3 < ((rd_L3 l1_0 x5_2).length : Int) := zI (by first | (with_reducible assumption) | assumption)
                   obtain ⟨ad179, A179_0, c179_0, e179, hx179_0, hl179_0, hi179_0⟩ := at_L2 HR178_0.out x8_3 p179 q179
                   cases e179
                   replace hx179_0 := (HB.out.cell (World.block_lt_of_cell? w _ hx179_0)).trans hx179_0
                   have HR179_0 := zA hi179_0
                   have HC179_0 := zA hl179_0
                   clear hi179_0 hl179_0
                   replace p179 := eq_true p179
                   replace q179 := eq_true q179
                   try go_wp2
                   replace BK172 := zA (zH BK172.out)
                   replace BK173 := zA (zH BK173.out)
                   replace HB := zA (zF HB.out)
                   refine start_ (n := 20) (S := fun w' => w'.cell? ⟨gb172, 0, none⟩ = some (.int .i64 a0_0) ∧ w'.cell? ⟨gb172, 1, none⟩ = some (.int .i64 a0_1) ∧ w'.cell? ⟨gb172, 2, none⟩ = some (.int .i64 a0_2) ∧ w'.cell? ⟨gb172, 3, none⟩ = some (.int .i64 a0_3) ∧ w'.cell? ⟨gb172, 4, none⟩ = some (.slice A0_4 l0_4.length c0_4)) (ds := []) #[false, false, false, false, false, false, false, false, false, false, false, false, false, false, false, false, false, false, false, false] (by kernel_rfl) rfl rfl (cz5 BK172) (fun hHeld => ?_); refine with_tabW spec_CoefsOk.tab13 spec_CoefsOk.bits13 (fun HT_ HW_ => ?_)
                   generalize wr.drew = w46 at BK172 BK173 HB hHeld ⊢
                   refine nxY 0 60 HT_ rfl rfl ?_
                   refine nxO 1 61 HT_ rfl rfl (fun K hK => ?_)
                   refine goes_ Tryz.func58 (by kernel_rfl) rfl #[.slice A179_0 (rd_L2 (rd_L3 l1_0 x5_2) x8_3).length c179_0] (by rfl) rfl rfl (by (try simp only [zU, zV, zW]); first | done | rfl | (simp only [zR, zQ]; rfl)) ?_
                   with_reducible refine (spec_l11Level.calls k3 _ _ (rd_L2 (rd_L3 l1_0 x5_2) x8_3) true _ ?side1 ?side2 A32.out).mono ?_
                   (case side1 => exact nxC HR179_0 HB)
                   (case side2 => exact HC179_0.out)
                   rintro e w' ⟨rfl, ⟨nd, rfl⟩⟩
                   refine ⟨_, rfl, ?_⟩
                   refine hK.out _ _ (cz5 BK172) (fun hHeld => ?_)
                   clear hK K
                   refine nxZ 61 ?_
                   refine nxY 2 62 HT_ rfl rfl ?_
                   refine nxY 3 63 HT_ rfl rfl ?_
                   refine nxY 5 65 HT_ rfl rfl ?_
                   refine nxY 6 66 HT_ rfl rfl ?_
                   refine nxY 7 67 HT_ rfl rfl ?_
                   refine nxY 8 68 HT_ rfl rfl ?_
                   refine nxY 9 69 HT_ rfl rfl ?_
                   refine nxY 10 70 HT_ rfl rfl ?_
                   refine nxY 11 71 HT_ rfl rfl ?_
                   refine nxY 12 72 HT_ rfl rfl ?_
                   refine nxW 4 64 HT_ HW_ hHeld rfl rfl ?_
                   refine nxO 13 73 HT_ rfl rfl (fun K hK => ?_)
                   refine goes_ Tryz.func59 (by kernel_rfl) rfl #[.agg #[.int .i64 a0_0, .int .i64 a0_1, .int .i64 a0_2, .int .i64 a0_3, .slice A0_4 l0_4.length c0_4], .agg #[.int .i64 x5_2, .int .i64 (wrap64 (Int.tdiv x8_3 t175)), .int .i64 (Int.tmod x8_3 t175)]] (by rfl) rfl rfl (by (try simp only [zU, zV, zW]); first | done | rfl | (simp only [zR, zQ]; rfl)) ?_
                   with_reducible refine (spec_l11Hidden.calls k3 a0_0 a0_1 a0_2 a0_3 _ _ l0_4 x5_2 (wrap64 (Int.tdiv x8_3 t175)) (Int.tmod x8_3 t175) false _ ?side1 ?side2 A35.out).mono ?_
                   (case side1 => repeat (first | exact (Kd.C_below HR0_4.out (by repeat (first | (with_reducible first | exact HB.out | apply zC | apply zB | apply zF | refine zE ?_ GE172.out | refine zE ?_ GE173.out) | exact HB.out))) | (with_reducible refine yH ?_ _) | (with_reducible refine yF ?_ _) | (with_reducible refine yG ?_)))
                   (case side2 => exact HC0_4.out)
                   rintro e w47 ⟨rfl, hb⟩
                   refine ⟨_, rfl, ?_⟩
                   replace BK172 := nxB hb BK172
                   replace BK173 := nxB hb BK173
                   replace HB := nxH hb HB
                   refine hK.out _ _ (cz5 BK172) (fun hHeld => ?_)
                   clear hK K
                   refine nxZ 73 ?_
                   refine nxY 14 74 HT_ rfl rfl ?_
                   refine nxV 15 75 HT_ rfl rfl ?_
                   refine nxV 16 76 HT_ rfl rfl ?_
                   refine nxV 17 77 HT_ rfl rfl ?_
                   refine nxY 18 78 HT_ rfl rfl ?_
                   refine nxY 19 79 HT_ rfl rfl ?_
                   refine done_ (done_of HT_.out (by kernel_rfl)) ?_
                   try go_wp2
                   go_roundg k3
                   case measure => have := HJ2.out; have := HK2.out; have := HK3.out; omega
                   case rel => exact ⟨(wrap64 (x8_3 + 1)), rfl, H', ⟨by have := HJ2.out; have := HK2.out; have := HK3.out; omega⟩, ⟨BK172.out⟩, ⟨BK173.out⟩, ⟨nxD HB⟩⟩
                ·replace c33 := Bool.eq_false_iff.mpr c33
                 subst c33
                 rw [if_neg (show ¬ (false = true) by decide)] at H
                 obtain rfl := Option.some.inj H
                 have hnb48 := NB173_172.out
                 have hnc48 := NB172_173.out
                 have hcz49_0 : wr.cell? ⟨gb173, 0, none⟩ = some (.slice (some ad177) l1_0.length c1_0) := (zK BK173.out 0).trans rfl
                 have p178 : 0 ≤ (x5_2 : Int) := zI (by first | (with_reducible assumption) | assumption)
                 have q178 : x5_2 < (l1_0.length : Int) := zI (by first | (with_reducible assumption) | assumption)
                 obtain ⟨ad178, A178_0, c178_0, e178, hx178_0, hl178_0, hi178_0⟩ := at_L3 HR1_0.out x5_2 p178 q178
                 obtain rfl : ad177 = ad178 := (by injection e178)
                 replace hx178_0 := (HB.out.cell (World.block_lt_of_cell? w _ hx178_0)).trans hx178_0
                 have HR178_0 := zA hi178_0
                 have HC178_0 := zA hl178_0
                 clear hi178_0 hl178_0
                 replace p178 := eq_true p178
                 replace q178 := eq_true q178
                 have p179 : 0 ≤ (x8_3 : Int) := zI (by first | (with_reducible assumption) | assumption)
                 have q179 : x8_3 < ((rd_L3 l1_0 x5_2).length : Int) := zI (by first | (with_reducible assumption) | assumption)
                 obtain ⟨ad179, A179_0, c179_0, e179, hx179_0, hl179_0, hi179_0⟩ := at_L2 HR178_0.out x8_3 p179 q179
                 cases e179
                 replace hx179_0 := (HB.out.cell (World.block_lt_of_cell? w _ hx179_0)).trans hx179_0
                 have HR179_0 := zA hi179_0
                 have HC179_0 := zA hl179_0
                 clear hi179_0 hl179_0
                 replace p179 := eq_true p179
                 replace q179 := eq_true q179
                 try go_wp2
                 replace BK172 := zA (zH BK172.out)
                 replace BK173 := zA (zH BK173.out)
                 replace HB := zA (zF HB.out)
                 refine start_ (n := 20) (S := fun w' => True) (ds := []) #[false, false, false, false, false, false, false, false, false, false, false, false, false, false, false, false, false, false, false, false] (by kernel_rfl) rfl rfl trivial (fun hHeld => ?_); refine with_tabW spec_CoefsOk.tab13 spec_CoefsOk.bits13 (fun HT_ HW_ => ?_)
                 generalize wr.drew = w50 at BK172 BK173 HB hHeld ⊢
                 refine nxY 0 60 HT_ rfl rfl ?_
                 refine nxO 1 61 HT_ rfl rfl (fun K hK => ?_)
                 refine goes_ Tryz.func58 (by kernel_rfl) rfl #[.slice A179_0 (rd_L2 (rd_L3 l1_0 x5_2) x8_3).length c179_0] (by rfl) rfl rfl (by (try simp only [zU, zV, zW]); first | done | rfl | (simp only [zR, zQ]; rfl)) ?_
                 with_reducible refine (spec_l11Level.calls k3 _ _ (rd_L2 (rd_L3 l1_0 x5_2) x8_3) false _ ?side1 ?side2 A32.out).mono ?_
                 (case side1 => exact nxC HR179_0 HB)
                 (case side2 => exact HC179_0.out)
                 rintro e w' ⟨rfl, ⟨nd, rfl⟩⟩
                 refine ⟨_, rfl, ?_⟩
                 refine hK.out _ _ trivial (fun hHeld => ?_)
                 clear hK K
                 refine nxZ 61 ?_
                 refine nxY 2 62 HT_ rfl rfl ?_
                 refine nxY 3 63 HT_ rfl rfl ?_
                 refine nxV 4 64 HT_ rfl rfl ?_
                 refine nxV 5 65 HT_ rfl rfl ?_
                 refine nxV 6 66 HT_ rfl rfl ?_
                 refine nxV 7 67 HT_ rfl rfl ?_
                 refine nxV 8 68 HT_ rfl rfl ?_
                 refine nxV 9 69 HT_ rfl rfl ?_
                 refine nxV 10 70 HT_ rfl rfl ?_
                 refine nxV 11 71 HT_ rfl rfl ?_
                 refine nxV 12 72 HT_ rfl rfl ?_
                 refine nxV 13 73 HT_ rfl rfl ?_
                 refine nxV 14 74 HT_ rfl rfl ?_
                 refine nxV 15 75 HT_ rfl rfl ?_
                 refine nxV 16 76 HT_ rfl rfl ?_
                 refine nxV 17 77 HT_ rfl rfl ?_
                 refine nxV 18 78 HT_ rfl rfl ?_
                 refine nxY 19 79 HT_ rfl rfl ?_
                 refine done_ (done_of HT_.out (by kernel_rfl)) ?_
                 try go_wp2
                 go_ret
                 exact ⟨rfl, nxD HB⟩
               ·rw [if_neg c31] at H
                exact absurd H (by simp)
              ·rw [if_neg c30] at H
               exact absurd H (by simp)
             ·rw [if_neg c29] at H
              exact absurd H (by simp)
            ·rw [if_neg c28] at H
             exact absurd H (by simp)
           ·rw [if_neg c27] at H
            have c27b0 := decide_eq_false c27
            clear c27
            have H' := zA H
            clear H
            go_wp2
            go_roundg k3
            case measure => have := HJ2.out; have := HK2.out; have := HK3.out; omega
            case rel => exact ⟨(wrap64 (x5_2 + 1)), rfl, H', ⟨by have := HJ2.out; have := HK2.out; have := HK3.out; omega⟩, ⟨BK172.out⟩, ⟨BK173.out⟩, ⟨nxD HB⟩⟩
        ·rw [if_neg c26] at H
         have c26b0 : (((rd_L3 l1_0 x5_2).length : Int) == (wrap64 (t175 * t176))) = false := beq_eq_false_iff_ne.mpr c26
         have c26b1 : (((rd_L3 l1_0 x5_2).length : Int) != (wrap64 (t175 * t176))) = true := bne_iff_ne.mpr c26
         (first | rw [c26b0] | rw [c26b1] | (simp only [i64_w, i32_w]; first | rw [c26b0] | rw [c26b1]) | skip)
         obtain rfl := Option.some.inj H
         go_wp2
         go_ret
         exact ⟨rfl, nxD HB⟩
       ·rw [if_neg c19] at H
        exact absurd H (by simp)
      ·rw [if_neg c17] at H
       have c17b0 := decide_eq_false c17
       clear c17
       obtain rfl := Option.some.inj H
       have hnb51 := NB173_172.out
       have hnc51 := NB172_173.out
       have hcz52_0 : wr.cell? ⟨gb173, 0, none⟩ = some (.slice A1_0 l1_0.length c1_0) := (zK BK173.out 0).trans rfl
       go_wp2
       go_ret
       exact ⟨rfl, nxD HB⟩
theorem spec_l04Up.val (n d : Int) (h1 : 1 ≤ n) (h2 : n ≤ 100000) (h3 : 1 ≤ d) (h4 : d ≤ 100000) : spec_l04Up.f n d = some (upM n d) := by
 have := upM_in n d h1 h3
 unfold spec_l04Up.f
 rw [if_neg (by omega), wrap_in (n + d) (by omega) (by omega), wrap_in (n + d - 1) (by omega) (by omega)]
 unfold upM at this ⊢
 rw [wrap_in _ (by omega) (by omega)]
theorem spec_l04Most.l0_ev (p w h r : Int) (l : List SC) (hn : l.length ≤ 4) : ∀ (d i : Nat) (a b : Int), i + d = l.length → Ev (fun k => spec_l04Most.l0 k a b (i : Int) p w h r l) ((l.drop i).foldl (fun a c => mx a c.f1) a, (l.drop i).foldl (fun a c => mx a c.f2) b) := by
 intro d
 induction d with
 | zero =>
  intro i a b hi
  refine Ev.step (fun _ => by rw [spec_l04Most.l0]) (Ev.ng (by omega) (Ev.eq (Ev.now _) ?_))
  rw [List.drop_of_length_le (by omega)]; rfl
 | succ d ih =>
  intro i a b hi
  have hlt : i < l.length := by omega
  refine Ev.step (fun _ => by rw [spec_l04Most.l0]) (Ev.ip (by omega) (Ev.ip (by omega) ?_))
  rw [rdC_nat l i hlt, wrap_succ i (by omega), List.drop_eq_getElem_cons hlt, List.foldl_cons, List.foldl_cons, mx, mx]
  by_cases e1 : a < l[i].f1
  ·rw [if_pos e1]
   refine Ev.ip e1 ?_
   by_cases e2 : b < l[i].f2
   ·rw [if_pos e2]; exact Ev.ip e2 (ih (i + 1) _ _ (by omega))
   ·rw [if_neg e2]; exact Ev.ng e2 (ih (i + 1) _ _ (by omega))
  ·rw [if_neg e1]
   refine Ev.ng e1 ?_
   by_cases e2 : b < l[i].f2
   ·rw [if_pos e2]; exact Ev.ip e2 (ih (i + 1) _ _ (by omega))
   ·rw [if_neg e2]; exact Ev.ng e2 (ih (i + 1) _ _ (by omega))
theorem spec_l04Most.ev (p w h r : Int) (l : List SC) (hn : l.length ≤ 4) : Ev (fun k => spec_l04Most.f k p w h r l) (fhM l, fvM l) := spec_l04Most.l0_ev p w h r l hn l.length 0 1 1 (by omega)
theorem spec_l04Size.ev {p w h r : Int} {l : List SC} (q : Fr w h l) (i : Nat) (hi : i < l.length) : Ev (fun k => spec_l04Size.f k p w h r l (i : Int)) (upM (w * l[i].f1) (fhM l), upM (h * l[i].f2) (fvM l)) := by
 have c := compOk_of (q.c l[i] (List.getElem_mem hi))
 have a := mul_4 w l[i].f1 256 q.w1 q.w2 c.2.1.1 c.2.1.2
 have b := mul_4 h l[i].f2 256 q.h1 q.h2 c.2.2.1.1 c.2.2.1.2
 have e1 := q.hm
 have e2 := q.vm
 unfold spec_l04Size.f
 refine Ev.bind (spec_l04Most.ev p w h r l q.n2) (Ev.ip (by omega) (Ev.ip (by omega) ?_))
 rw [rdC_nat l i hi, wrap_in (w * l[i].f1) (by omega) (by omega), wrap_in (h * l[i].f2) (by omega) (by omega)]
 exact Ev.bind (Ev.c (spec_l04Up.val _ _ a.1 (by omega) e1.1 (by omega))) (Ev.bind (Ev.c (spec_l04Up.val _ _ b.1 (by omega) e2.1 (by omega))) (Ev.now _))
theorem spec_l04Units.ev {p w h r : Int} {l : List SC} (q : Fr w h l) : Ev (fun k => spec_l04Units.f k p w h r l) (upM w (8 * fhM l), upM h (8 * fvM l)) := by
 have e1 := q.hm
 have e2 := q.vm
 have a1 := q.w1
 have a2 := q.w2
 have a3 := q.h1
 have a4 := q.h2
 unfold spec_l04Units.f
 refine Ev.bind (spec_l04Most.ev p w h r l q.n2) ?_
 rw [wrap_in (8 * fhM l) (by omega) (by omega), wrap_in (8 * fvM l) (by omega) (by omega)]
 exact Ev.bind (Ev.c (spec_l04Up.val _ _ (by omega) (by omega) (by omega) (by omega))) (Ev.bind (Ev.c (spec_l04Up.val _ _ (by omega) (by omega) (by omega) (by omega))) (Ev.now _))
theorem spec_l04Blocks.ev {p w h r : Int} {l : List SC} (q : Fr w h l) (i : Nat) (hi : i < l.length) : Ev (fun k => spec_l04Blocks.f k p w h r l (i : Int)) (blkW w l l[i], blkH h l l[i]) := by
 have a := q.bw l[i] (List.getElem_mem hi)
 have b := q.bh l[i] (List.getElem_mem hi)
 unfold spec_l04Blocks.f
 refine Ev.bind (spec_l04Units.ev q) (Ev.ip (by omega) (Ev.ip (by omega) ?_))
 unfold blkW at a ⊢
 unfold blkH at b ⊢
 rw [rdC_nat l i hi, wrap_in (upM w (8 * fhM l) * l[i].f1) (by omega) (by omega), wrap_in (upM h (8 * fvM l) * l[i].f2) (by omega) (by omega)]
 exact Ev.now _
theorem spec_l11Need.ev {p w h r : Int} {l : List SC} (q : Fr w h l) (i : Nat) (hi : i < l.length) : Ev (fun k => spec_l11Need.f k p w h r l (i : Int)) (needW w l l[i], needH h l l[i]) := by
 have c := compOk_of (q.c l[i] (List.getElem_mem hi))
 have a := mul_4 w l[i].f1 256 q.w1 q.w2 c.2.1.1 c.2.1.2
 have b := mul_4 h l[i].f2 256 q.h1 q.h2 c.2.2.1.1 c.2.2.1.2
 have a2 := upM_in _ (fhM l) a.1 q.hm.1
 have b2 := upM_in _ (fvM l) b.1 q.vm.1
 unfold spec_l11Need.f
 refine Ev.bind (spec_l04Size.ev q i hi) ?_
 exact Ev.bind (Ev.c (spec_l04Up.val _ _ a2.1 (by omega) (by omega) (by omega))) (Ev.bind (Ev.c (spec_l04Up.val _ _ b2.1 (by omega) (by omega) (by omega))) (Ev.now _))
theorem spec_l11Hidden.ev {p w h r : Int} {l : List SC} (q : Fr w h l) (i : Nat) (hi : i < l.length) (y x : Int) : Ev (fun k => spec_l11Hidden.f k p w h r l (i : Int) y x) (decide (needH h l l[i] ≤ y) || decide (needW w l l[i] ≤ x)) := by
 unfold spec_l11Hidden.f
 refine Ev.bind (spec_l11Need.ev q i hi) ?_
 by_cases e : needH h l l[i] ≤ y
 ·refine Ev.ip e (Ev.eq (Ev.now _) ?_)
  rw [zT e, Bool.true_or]
 ·refine Ev.ng e (Ev.eq (Ev.now _) ?_)
  rw [decide_eq_false e, Bool.false_or]
theorem spec_l11Level.ev (b : List Int) : Ev (fun k => spec_l11Level.f k b) (isLv b) := Ev.bind (spec_l05Nums.ev (-16383) 16383 b) (Ev.now _)
theorem spec_CoefsOk.l1_ev {p w h r : Int} {l : List SC} (q : Fr w h l) (PL : List (List (List Int))) (hn : PL.length = l.length) (i : Nat) (hi : i < l.length) (hiP : i < PL.length) (hlen : (PL[i].length : Int) = blkW w l l[i] * blkH h l l[i]) (b : Bool) (hr : Ev (fun k => spec_CoefsOk.l0 k (wrap64 ((i : Int) + 1)) p w h r l PL) b) :
  ∀ d j : Nat, j + d = PL[i].length → Ev (fun k => spec_CoefsOk.l1 k (i : Int) (blkW w l l[i]) (blkH h l l[i]) (j : Int) p w h r l PL) (blocksGo (blkW w l l[i]) (needW w l l[i]) (needH h l l[i]) (PL[i].drop j) j && b) := by
 have hbw := q.bw l[i] (List.getElem_mem hi)
 have har := q.area l[i] (List.getElem_mem hi)
 intro d
 induction d with
 | zero =>
  intro j hj
  refine Ev.step (fun _ => by rw [spec_CoefsOk.l1]) (Ev.ng (by rw [wrap_in _ (by omega) (by omega)]; omega) (Ev.eq hr ?_))
  rw [List.drop_of_length_le (by omega)]; rfl
 | succ d ih =>
  intro j hj
  have hjl : j < PL[i].length := by omega
  refine Ev.step (fun _ => by rw [spec_CoefsOk.l1]) (Ev.ip (by rw [wrap_in (blkW w l l[i] * blkH h l l[i]) (by omega) (by omega)]; omega) (Ev.ip (by omega) (Ev.ip (by omega) (Ev.ip (by omega) (Ev.ip (by rw [rdL3_nat PL i hiP]; omega) ?_)))))
  rw [rdL3_nat PL i hiP, rdL2_nat PL[i] j hjl, List.drop_eq_getElem_cons hjl, blocksGo]
  refine Ev.bind (spec_l11Level.ev PL[i][j]) ?_
  by_cases e1 : isLv PL[i][j] = true
  ·rw [e1, Bool.true_and]
   have e64 : PL[i][j].length = 64 := by
    unfold isLv at e1
    rw [Bool.and_eq_true, decide_eq_true_eq] at e1
    exact e1.1
   have et : Int.tdiv (j : Int) (blkW w l l[i]) ≤ 1048576 ∧ 0 ≤ Int.tdiv (j : Int) (blkW w l l[i]) := by
    rw [Int.tdiv_eq_ediv_of_nonneg (by omega)]
    have := Int.ediv_le_self (a := (j : Int)) (blkW w l l[i]) (by omega)
    have := Int.ediv_nonneg (a := (j : Int)) (b := blkW w l l[i]) (by omega) (by omega)
    omega
   have en : ¬ blkW w l l[i] = 0 := by omega
   refine Ev.ip rfl (Ev.ng en ?_)
   have ej : (j : Int) < 9223372036854775807 := by omega
   rw [wrap_in (Int.tdiv (j : Int) (blkW w l l[i])) (by omega) (by omega), wrap_succ j (by omega)]
   refine Ev.bind (spec_l11Hidden.ev q i hi _ _) ?_
   rw [show (decide (needH h l l[i] ≤ Int.tdiv (j : Int) (blkW w l l[i])) || decide (needW w l l[i] ≤ Int.tmod (j : Int) (blkW w l l[i]))) = hidM (blkW w l l[i]) (needW w l l[i]) (needH h l l[i]) j from rfl]
   cases e2 : hidM (blkW w l l[i]) (needW w l l[i]) (needH h l l[i]) j with
   | false => exact Ev.ng (by simp) (Ev.eq (ih (j + 1) (by omega)) (by simp))
   | true =>
    refine Ev.ip rfl (Ev.bind (spec_l11Zero.ev PL[i][j] (by omega)) ?_)
    cases e3 : allW 0 0 PL[i][j] with
    | true => exact Ev.ip rfl (Ev.eq (ih (j + 1) (by omega)) (by simp))
    | false => exact Ev.ng (by simp) (Ev.eq (Ev.now _) (by simp))
  ·refine Ev.ng e1 (Ev.eq (Ev.now _) ?_)
   rw [Bool.eq_false_iff.2 e1]; rfl
theorem spec_CoefsOk.l0_ev {p w h r : Int} {l : List SC} (q : Fr w h l) (PL : List (List (List Int))) (hn : PL.length = l.length) : ∀ d i : Nat, i + d = l.length → Ev (fun k => spec_CoefsOk.l0 k (i : Int) p w h r l PL) (planesGo w h l (l.drop i) (PL.drop i)) := by
 intro d
 have h4 := q.n2
 induction d with
 | zero =>
  intro i hi
  refine Ev.step (fun _ => by rw [spec_CoefsOk.l0]) (Ev.ng (by omega) (Ev.eq (Ev.now _) ?_))
  rw [List.drop_of_length_le (by omega)]; rfl
 | succ d ih =>
  intro i hi
  have hlt : i < l.length := by omega
  have hlP : i < PL.length := by omega
  have har := q.area l[i] (List.getElem_mem hlt)
  refine Ev.step (fun _ => by rw [spec_CoefsOk.l0]) (Ev.ip (by omega) (Ev.bind (spec_l04Blocks.ev q i hlt) ?_))
  refine Ev.ip (by omega) ?_
  rw [rdL3_nat PL i hlP, wrap_in (blkW w l l[i] * blkH h l l[i]) (by omega) (by omega), List.drop_eq_getElem_cons hlt, List.drop_eq_getElem_cons hlP, planesGo, planeOkM]
  by_cases e : (PL[i].length : Int) = blkW w l l[i] * blkH h l l[i]
  ·refine Ev.ip e ?_
   rw [zT e, Bool.true_and]
   refine Ev.eq (spec_CoefsOk.l1_ev q PL hn i hlt hlP e (planesGo w h l (l.drop (i + 1)) (PL.drop (i + 1))) ?_ PL[i].length 0 (by omega)) ?_
   ·rw [wrap_succ i (by omega)]; exact ih (i + 1) (by omega)
   ·rw [List.drop_zero]
  ·refine Ev.ng e (Ev.eq (Ev.now _) ?_)
   rw [decide_eq_false e]; rfl
theorem spec_CoefsOk.ev (p w h r : Int) (l : List SC) (PL : List (List (List Int))) (hn : PL.length ≤ 100000000) : Ev (fun k => spec_CoefsOk.f k p w h r l PL) (coefsOkM p w h r l PL) := by
 have bad : Ev (fun k => spec_CoefsOk.j0 k true p w h r l PL) false := Ev.step (fun _ => by rw [spec_CoefsOk.j0]) (Ev.ip rfl (Ev.now _))
 unfold spec_CoefsOk.f coefsOkM
 refine Ev.bind (spec_FrameOk.ev p w h r l) ?_
 by_cases hF : frameOkM p w h r l = true
 ·rw [hF, Bool.true_and]
  refine Ev.ip rfl ?_
  by_cases e : PL.length = l.length
  ·rw [zT e, Bool.true_and]
   have e2 : ((PL.length : Int) != (l.length : Int)) = false := by simp [e]
   rw [e2]
   refine Ev.step (fun _ => by rw [spec_CoefsOk.j0]) ?_
   exact (Ev.ng (by simp) (Ev.eq (spec_CoefsOk.l0_ev (Fr.of hF) PL e l.length 0 (by omega)) (by rw [List.drop_zero, List.drop_zero])))
  ·have e2 : ((PL.length : Int) != (l.length : Int)) = true := by
    rw [bne_iff_ne]; omega
   rw [e2, decide_eq_false e]
   exact bad
 ·refine Ev.ng hF ?_
  rw [Bool.eq_false_iff.2 hF]
  exact bad
end Go.Proofs.YtilimpjcdeeaiaaGreat.G


namespace Go.Proofs.YtilimpjcdeeaiaaGreat.G
open Go.RowKit Go.Proofs.YtilimpjcdeeaiaaGreatW.PrintWords Go.Proofs.YtilimpjcdeeaiaaGreatW.PrintLast Go.Proofs.YtilimpjcdeeaiaaGreatW.PrintMore
attribute [local go_sem] max2_int min2_int max_two min_two max_three min_three max_four min_four   -- for this text's walks alone
def spec_l04Comps.l0 : Nat → List Int → Int → Int → Int → Int → Int → List (S53) → Option (Bool)
 | 0, _, _, _, _, _, _, _ => none
 | k + 1, x1, x5, x184000, x184001, x184002, x184003, x184004 => if x5 < (x1.length : Int) then (if 0 ≤ x5 then ((spec_l01Between.f (rd x1 x5) 0 (wrap64 ((x184004.length : Int) - 1))).bind fun t185 => (if t185 = true then (if x5 > 0 then (if 0 ≤ (wrap64 (x5 - 1)) then (if (wrap64 (x5 - 1)) < (x1.length : Int) then (if (rd x1 (wrap64 (x5 - 1))) ≥ (rd x1 x5) then (some false) else (spec_l04Comps.l0 k x1 (wrap64 (x5 + 1)) x184000 x184001 x184002 x184003 x184004)) else (none)) else (none)) else (spec_l04Comps.l0 k x1 (wrap64 (x5 + 1)) x184000 x184001 x184002 x184003 x184004)) else (some false))) else (none)) else (some (decide ((x1.length : Int) > 0)))
def spec_l04Comps.f (k : Nat) (a0_0 : Int) (a0_1 : Int) (a0_2 : Int) (a0_3 : Int) (l0_4 : List (S53)) (l1 : List Int) : Option (Bool) := spec_l04Comps.l0 k l1 0 a0_0 a0_1 a0_2 a0_3 l0_4
set_option maxHeartbeats 8000000 in
set_option maxRecDepth 100000 in
theorem spec_l04Comps.calls (k : Nat) (a0_0 : Int) (a0_1 : Int) (a0_2 : Int) (a0_3 : Int) (A0_4 : Option Addr) (c0_4 : Nat) (l0_4 : List (S53)) (A1 : Option Addr) (c1 : Nat) (l1 : List Int) (r : Bool) (w : World) (hr0_4 : Kd.C k53 w A0_4 l0_4.length l0_4) (hc0_4 : l0_4.length ≤ c0_4) (hr1 : Kd.C (Kd.int .i64) w A1 l1.length l1) (hc1 : l1.length ≤ c1) (h : spec_l04Comps.f k a0_0 a0_1 a0_2 a0_3 l0_4 l1 = some r) :
  Calls Tryz.prog 89 #[.agg #[.int .i64 a0_0, .int .i64 a0_1, .int .i64 a0_2, .int .i64 a0_3, .slice A0_4 l0_4.length c0_4], .slice A1 l1.length c1] w fun e w' => e = .returned (.bool r) ∧ Below w.heap.size w w' := by
 have hu37 := Tryz.underlying37
 have HR0_4 := zA hr0_4
 have HC0_4 := zA hc0_4
 clear hr0_4 hc0_4
 have HR1 := zA hr1
 have HC1 := zA hc1
 clear hr1 hc1
 have HB := zA (Below.refl w.heap.size w)
 have H : (spec_l04Comps.l0 k l1 0 a0_0 a0_1 a0_2 a0_3 l0_4) = some r := h
 clear h
 have H' := zA H
 clear H
 go_enter Tryz.func89, Tryz.ntmps89
 go_wp2_with (first | ((with_reducible refine gate_dst (N := 2) rfl ?_); refine nxX (N := 2) (cs := #[.int .i64 a0_0, .int .i64 a0_1, .int .i64 a0_2, .int .i64 a0_3, .slice A0_4 l0_4.length c0_4]) (t := 37) ?_; intro gb183 hg w3 hbox hb; have BK183 := zA (hbox); have GE183 := nxG HB hg; replace HB := nxH hb HB; clear hb hbox hg))
 go_loopg [5] k (fun kq v5 w' => ∃ (x5_1 : Int), v5 = .int .i64 x5_1 ∧ Aside0 (spec_l04Comps.l0 kq l1 x5_1 a0_0 a0_1 a0_2 a0_3 l0_4 = some r) ∧ Aside0 (kq ≤ k) ∧ Aside0 (w'.heap[gb183]? = some (.cells #[.int .i64 a0_0, .int .i64 a0_1, .int .i64 a0_2, .int .i64 a0_3, (.slice A0_4 l0_4.length c0_4)] 37 (0, 0))) ∧ Aside0 (Below w.heap.size w w'))
 case atStart => exact ⟨(0), rfl, H', ⟨Nat.le_refl _⟩, ⟨BK183.out⟩, ⟨nxD HB⟩⟩
 case round =>
  clear H'
  obtain ⟨x5_1, rfl, HA, HK1, BK183, HB⟩ := hrel
  cases gk with
  | zero => exact absurd HA.out (by simp [spec_l04Comps.l0])
  | succ k1 =>
   have H := HA.out
   clear HA
   simp only [spec_l04Comps.l0] at H
   by_cases c4 : x5_1 < (l1.length : Int)
   ·rw [if_pos c4] at H
    have c4b0 := zT c4
    clear c4
    by_cases c5 : 0 ≤ x5_1
    ·rw [if_pos c5] at H
     have c5b0 := zT c5
     clear c5
     replace H := Option.bind_eq_some_iff.mp H
     obtain ⟨t185, A60, H⟩ := H
     try dsimp only at H
     have A6 := zA A60
     clear A60
     by_cases c7 : t185 = true
     ·subst c7
      rw [if_pos rfl] at H
      by_cases c8 : x5_1 > 0
      ·rw [if_pos c8] at H
       have c8b0 := zT c8
       clear c8
       obtain ⟨ji9, hji9⟩ : ∃ j_ : Int, (wrap64 (x5_1 - 1)) = j_ := ⟨_, rfl⟩
       replace H : (if 0 ≤ (ji9) then (if (ji9) < (l1.length : Int) then (if (rd l1 (ji9)) ≥ (rd l1 x5_1) then (some false) else (spec_l04Comps.l0 k1 l1 (wrap64 (x5_1 + 1)) a0_0 a0_1 a0_2 a0_3 l0_4)) else (none)) else (none)) = some r := by first | (rw [hji9] at H; exact H) | (simp only [hji9] at H ⊢; exact H)
       (try rw [hji9] at A6)
       have hji9w : (IntKind.i64.wrap (x5_1 - 1)) = ji9 := (i64_w _).trans hji9
       by_cases c10 : 0 ≤ (ji9)
       ·rw [if_pos c10] at H
        have c10b0 := zT c10
        clear c10
        by_cases c11 : (ji9) < (l1.length : Int)
        ·rw [if_pos c11] at H
         have c11b0 := zT c11
         clear c11
         by_cases c12 : (rd l1 (ji9)) ≥ (rd l1 x5_1)
         ·rw [if_pos c12] at H
          have c12b0 := zT c12
          clear c12
          obtain rfl := Option.some.inj H
          have p184 : 0 ≤ (x5_1 : Int) := zI (by first | (with_reducible assumption) | assumption)
          have q184 : x5_1 < (l1.length : Int) := zI (by first | (with_reducible assumption) | assumption)
          obtain ⟨ad184, e184, hx184_0⟩ := Kd.at_int HR1.out x5_1 p184 q184
          cases e184
          replace hx184_0 := (HB.out.cell (World.block_lt_of_cell? w _ hx184_0)).trans hx184_0
          replace p184 := eq_true p184
          replace q184 := eq_true q184
          obtain ⟨hcz13_0, hcz13_1, hcz13_2, hcz13_3, hcz13_4⟩ := cz5 BK183
          have p186 : 0 ≤ ((ji9) : Int) := zI (by first | (with_reducible assumption) | assumption); have q186 : (ji9) < (l1.length : Int) := zI (by first | (with_reducible assumption) | assumption); obtain ⟨ad186, e186, hx186_0⟩ := Kd.at_int HR1.out (ji9) p186 q186; obtain rfl : ad184 = ad186 := (by injection e186); replace hx186_0 := (HB.out.cell (World.block_lt_of_cell? w _ hx186_0)).trans hx186_0; replace p186 := eq_true p186; replace q186 := eq_true q186; have p187 : 0 ≤ (x5_1 : Int) := zI (by first | (with_reducible assumption) | assumption); have q187 : x5_1 < (l1.length : Int) := zI (by first | (with_reducible assumption) | assumption); obtain ⟨ad187, e187, hx187_0⟩ := Kd.at_int HR1.out x5_1 p187 q187; obtain rfl : ad184 = ad187 := (by injection e187); replace hx187_0 := (HB.out.cell (World.block_lt_of_cell? w _ hx187_0)).trans hx187_0; replace p187 := eq_true p187; replace q187 := eq_true q187
          go_wp2_with (fail)
          repeat (go_quiet (first | (go_at_call 38; (with_reducible refine (spec_l01Between.calls (rd l1 x5_1) 0 (wrap64 ((l0_4.length : Int) - 1)) true _ A6.out).mono ?_); rintro e w' ⟨rfl, ⟨nd, rfl⟩⟩; (try first | exact ⟨rfl, _, World.drewN_drewN _ _ _⟩ | exact ⟨rfl, _, Eq.trans (World.drewN_drewN _ _ _) (congrArg (World.drewN _) (Nat.add_assoc _ _ _))⟩))); try go_wp2_with (fail))
          go_ret
          exact ⟨by first | rfl | (simp [errW_none, errW_some] <;> rfl) | (simp only [← hji9]; first | rfl | (simp [errW_none, errW_some] <;> rfl)) | (simp [*, errW_none, errW_some] <;> rfl), by repeat (first | (with_reducible first | exact HB.out | apply zC | apply zB | apply zF | refine zE ?_ GE183.out) | exact HB.out)⟩
         ·rw [if_neg c12] at H
          have c12b0 := decide_eq_false c12
          clear c12
          have H' := zA H
          clear H
          have p184 : 0 ≤ (x5_1 : Int) := zI (by first | (with_reducible assumption) | assumption)
          have q184 : x5_1 < (l1.length : Int) := zI (by first | (with_reducible assumption) | assumption)
          obtain ⟨ad184, e184, hx184_0⟩ := Kd.at_int HR1.out x5_1 p184 q184
          cases e184
          replace hx184_0 := (HB.out.cell (World.block_lt_of_cell? w _ hx184_0)).trans hx184_0
          replace p184 := eq_true p184
          replace q184 := eq_true q184
          obtain ⟨hcz14_0, hcz14_1, hcz14_2, hcz14_3, hcz14_4⟩ := cz5 BK183
          have p186 : 0 ≤ ((ji9) : Int) := zI (by first | (with_reducible assumption) | assumption); have q186 : (ji9) < (l1.length : Int) := zI (by first | (with_reducible assumption) | assumption); obtain ⟨ad186, e186, hx186_0⟩ := Kd.at_int HR1.out (ji9) p186 q186; obtain rfl : ad184 = ad186 := (by injection e186); replace hx186_0 := (HB.out.cell (World.block_lt_of_cell? w _ hx186_0)).trans hx186_0; replace p186 := eq_true p186; replace q186 := eq_true q186; have p187 : 0 ≤ (x5_1 : Int) := zI (by first | (with_reducible assumption) | assumption); have q187 : x5_1 < (l1.length : Int) := zI (by first | (with_reducible assumption) | assumption); obtain ⟨ad187, e187, hx187_0⟩ := Kd.at_int HR1.out x5_1 p187 q187; obtain rfl : ad184 = ad187 := (by injection e187); replace hx187_0 := (HB.out.cell (World.block_lt_of_cell? w _ hx187_0)).trans hx187_0; replace p187 := eq_true p187; replace q187 := eq_true q187
          go_wp2_with (fail)
          repeat (go_quiet (first | (go_at_call 38; (with_reducible refine (spec_l01Between.calls (rd l1 x5_1) 0 (wrap64 ((l0_4.length : Int) - 1)) true _ A6.out).mono ?_); rintro e w' ⟨rfl, ⟨nd, rfl⟩⟩; (try first | exact ⟨rfl, _, World.drewN_drewN _ _ _⟩ | exact ⟨rfl, _, Eq.trans (World.drewN_drewN _ _ _) (congrArg (World.drewN _) (Nat.add_assoc _ _ _))⟩))); try go_wp2_with (fail))
          go_roundg k1
          case measure => have := HK1.out; omega
          case rel => exact ⟨(wrap64 (x5_1 + 1)), rfl, H', ⟨by have := HK1.out; omega⟩, ⟨BK183.out⟩, ⟨nxD HB⟩⟩
        ·rw [if_neg c11] at H
         exact absurd H (by simp)
       ·rw [if_neg c10] at H
        exact absurd H (by simp)
      ·rw [if_neg c8] at H
       have c8b0 := decide_eq_false c8
       clear c8
       have H' := zA H
       clear H
       have p184 : 0 ≤ (x5_1 : Int) := zI (by first | (with_reducible assumption) | assumption)
       have q184 : x5_1 < (l1.length : Int) := zI (by first | (with_reducible assumption) | assumption)
       obtain ⟨ad184, e184, hx184_0⟩ := Kd.at_int HR1.out x5_1 p184 q184
       cases e184
       replace hx184_0 := (HB.out.cell (World.block_lt_of_cell? w _ hx184_0)).trans hx184_0
       replace p184 := eq_true p184
       replace q184 := eq_true q184
       obtain ⟨hcz15_0, hcz15_1, hcz15_2, hcz15_3, hcz15_4⟩ := cz5 BK183
       go_wp2_with (fail)
       repeat (go_quiet (first | (go_at_call 38; (with_reducible refine (spec_l01Between.calls (rd l1 x5_1) 0 (wrap64 ((l0_4.length : Int) - 1)) true _ A6.out).mono ?_); rintro e w' ⟨rfl, ⟨nd, rfl⟩⟩; (try first | exact ⟨rfl, _, World.drewN_drewN _ _ _⟩ | exact ⟨rfl, _, Eq.trans (World.drewN_drewN _ _ _) (congrArg (World.drewN _) (Nat.add_assoc _ _ _))⟩))); try go_wp2_with (fail))
       go_roundg k1
       case measure => have := HK1.out; omega
       case rel => exact ⟨(wrap64 (x5_1 + 1)), rfl, H', ⟨by have := HK1.out; omega⟩, ⟨BK183.out⟩, ⟨nxD HB⟩⟩
     ·replace c7 := Bool.eq_false_iff.mpr c7
      subst c7
      rw [if_neg (show ¬ (false = true) by decide)] at H
      obtain rfl := Option.some.inj H
      have p184 : 0 ≤ (x5_1 : Int) := zI (by first | (with_reducible assumption) | assumption)
      have q184 : x5_1 < (l1.length : Int) := zI (by first | (with_reducible assumption) | assumption)
      obtain ⟨ad184, e184, hx184_0⟩ := Kd.at_int HR1.out x5_1 p184 q184
      cases e184
      replace hx184_0 := (HB.out.cell (World.block_lt_of_cell? w _ hx184_0)).trans hx184_0
      replace p184 := eq_true p184
      replace q184 := eq_true q184
      obtain ⟨hcz16_0, hcz16_1, hcz16_2, hcz16_3, hcz16_4⟩ := cz5 BK183
      go_wp2_with (fail)
      repeat (go_quiet (first | (go_at_call 38; (with_reducible refine (spec_l01Between.calls (rd l1 x5_1) 0 (wrap64 ((l0_4.length : Int) - 1)) false _ A6.out).mono ?_); rintro e w' ⟨rfl, ⟨nd, rfl⟩⟩; (try first | exact ⟨rfl, _, World.drewN_drewN _ _ _⟩ | exact ⟨rfl, _, Eq.trans (World.drewN_drewN _ _ _) (congrArg (World.drewN _) (Nat.add_assoc _ _ _))⟩))); try go_wp2_with (fail))
      go_ret
      exact ⟨rfl, nxD HB⟩
    ·rw [if_neg c5] at H
     exact absurd H (by simp)
   ·rw [if_neg c4] at H
    have c4b0 := decide_eq_false c4
    clear c4
    obtain rfl := Option.some.inj H
    go_wp2
    repeat (go_quiet (fail); try go_wp2)
    go_ret
    exact ⟨rfl, nxD HB⟩
end Go.Proofs.YtilimpjcdeeaiaaGreat.G


namespace Go.Proofs.YtilimpjcdeeaiaaGreat.G
open Go.RowKit Go.Proofs.YtilimpjcdeeaiaaGreatW.PrintWords Go.Proofs.YtilimpjcdeeaiaaGreatW.PrintLast Go.Proofs.YtilimpjcdeeaiaaGreatW.PrintMore
attribute [local go_sem] max2_int min2_int max_two min_two max_three min_three max_four min_four   -- for this text's walks alone
def spec_l12Bits.f (l0_0 : List Int) (a0_1 : Int) (a0_2 : Int) (a0_3 : Int) (a0_4 : Int) : Option (Bool) := (spec_l01Between.f a0_1 0 a0_2).bind fun t189 => (if t189 = true then (if a0_2 ≤ 63 then ((spec_l01Between.f a0_4 0 13).bind fun t190 => (if t190 = true then (if a0_3 = 0 then (some true) else (some (a0_3 == (wrap64 (a0_4 + 1))))) else (some false))) else (some false)) else (some false))
set_option maxHeartbeats 8000000 in
set_option maxRecDepth 100000 in
theorem spec_l12Bits.calls (A0_0 : Option Addr) (c0_0 : Nat) (l0_0 : List Int) (a0_1 : Int) (a0_2 : Int) (a0_3 : Int) (a0_4 : Int) (r : Bool) (w : World) (hr0_0 : Kd.C (Kd.int .i64) w A0_0 l0_0.length l0_0) (hc0_0 : l0_0.length ≤ c0_0) (h : spec_l12Bits.f l0_0 a0_1 a0_2 a0_3 a0_4 = some r) :
  Calls Tryz.prog 90 #[.agg #[.slice A0_0 l0_0.length c0_0, .int .i64 a0_1, .int .i64 a0_2, .int .i64 a0_3, .int .i64 a0_4]] w fun e w' => e = .returned (.bool r) ∧ Below w.heap.size w w' := by
 have hu79 := Tryz.underlying79
 have HR0_0 := zA hr0_0
 have HC0_0 := zA hc0_0
 clear hr0_0 hc0_0
 have HB := zA (Below.refl w.heap.size w)
 have H : ((spec_l01Between.f a0_1 0 a0_2).bind fun t189 => (if t189 = true then (if a0_2 ≤ 63 then ((spec_l01Between.f a0_4 0 13).bind fun t190 => (if t190 = true then (if a0_3 = 0 then (some true) else (some (a0_3 == (wrap64 (a0_4 + 1))))) else (some false))) else (some false)) else (some false))) = some r := h
 clear h
 replace H := Option.bind_eq_some_iff.mp H
 obtain ⟨t189, A20, H⟩ := H
 try dsimp only at H
 have A2 := zA A20
 clear A20
 by_cases c3 : t189 = true
 rotate_left
 ·replace c3 := Bool.eq_false_iff.mpr c3
  subst c3
  rw [if_neg (show ¬ (false = true) by decide)] at H
  obtain rfl := Option.some.inj H
  go_enter Tryz.func90, Tryz.ntmps90
  go_wp2_with (first | ((with_reducible refine gate_dst (N := 1) rfl ?_); refine nxX (N := 1) (cs := #[.slice A0_0 l0_0.length c0_0, .int .i64 a0_1, .int .i64 a0_2, .int .i64 a0_3, .int .i64 a0_4]) (t := 79) ?_; intro gb188 hg w16 hbox hb; have n0_ := nxH hb HB; have n1_ := zA (hbox); clear HB; have HB := n0_; have BK188 := n1_; clear n0_ n1_ ; clear hb hbox hg; obtain ⟨hcz17_0, hcz17_1, hcz17_2, hcz17_3, hcz17_4⟩ := cz5 BK188) | ((with_reducible refine gate_callee (f := 38) rfl ?_); refine goesL_ (some 7) rfl rfl Tryz.func38 (by kernel_rfl) rfl #[.int .i64 a0_1, .int .i64 0, .int .i64 a0_2] rfl (by (try simp only [zU, zV, zW]); first | done | rfl | (simp only [zR, zQ]; rfl)) ?_; (with_reducible refine (spec_l01Between.calls a0_1 0 a0_2 false _ A2.out).mono ?_); rintro e w' ⟨rfl, ⟨nd, rfl⟩⟩; refine ⟨_, rfl, ?_⟩))
  go_ret
  exact ⟨rfl, nxD HB⟩
 subst c3
 rw [if_pos rfl] at H
 by_cases c4 : a0_2 ≤ 63
 rotate_left
 ·rw [if_neg c4] at H
  have c4b0 := decide_eq_false c4
  clear c4
  obtain rfl := Option.some.inj H
  go_enter Tryz.func90, Tryz.ntmps90
  go_wp2_with (first | ((with_reducible refine gate_dst (N := 1) rfl ?_); refine nxX (N := 1) (cs := #[.slice A0_0 l0_0.length c0_0, .int .i64 a0_1, .int .i64 a0_2, .int .i64 a0_3, .int .i64 a0_4]) (t := 79) ?_; intro gb188 hg w14 hbox hb; have n0_ := nxH hb HB; have n1_ := zA (hbox); clear HB; have HB := n0_; have BK188 := n1_; clear n0_ n1_ ; clear hb hbox hg; obtain ⟨hcz15_0, hcz15_1, hcz15_2, hcz15_3, hcz15_4⟩ := cz5 BK188) | ((with_reducible refine gate_callee (f := 38) rfl ?_); refine goesL_ (some 7) rfl rfl Tryz.func38 (by kernel_rfl) rfl #[.int .i64 a0_1, .int .i64 0, .int .i64 a0_2] rfl (by (try simp only [zU, zV, zW]); first | done | rfl | (simp only [zR, zQ]; rfl)) ?_; (with_reducible refine (spec_l01Between.calls a0_1 0 a0_2 true _ A2.out).mono ?_); rintro e w' ⟨rfl, ⟨nd, rfl⟩⟩; refine ⟨_, rfl, ?_⟩))
  go_ret
  exact ⟨rfl, nxD HB⟩
 rw [if_pos c4] at H
 have c4b0 := zT c4
 clear c4
 replace H := Option.bind_eq_some_iff.mp H
 obtain ⟨t190, A50, H⟩ := H
 try dsimp only at H
 have A5 := zA A50
 clear A50
 by_cases c6 : t190 = true
 rotate_left
 ·replace c6 := Bool.eq_false_iff.mpr c6
  subst c6
  rw [if_neg (show ¬ (false = true) by decide)] at H
  obtain rfl := Option.some.inj H
  go_enter Tryz.func90, Tryz.ntmps90
  go_wp2_with (first | ((with_reducible refine gate_dst (N := 1) rfl ?_); refine nxX (N := 1) (cs := #[.slice A0_0 l0_0.length c0_0, .int .i64 a0_1, .int .i64 a0_2, .int .i64 a0_3, .int .i64 a0_4]) (t := 79) ?_; intro gb188 hg w12 hbox hb; have n0_ := nxH hb HB; have n1_ := zA (hbox); clear HB; have HB := n0_; have BK188 := n1_; clear n0_ n1_ ; clear hb hbox hg; obtain ⟨hcz13_0, hcz13_1, hcz13_2, hcz13_3, hcz13_4⟩ := cz5 BK188) | ((with_reducible refine gate_callee (f := 38) rfl ?_); refine goesL_ (some 7) rfl rfl Tryz.func38 (by kernel_rfl) rfl #[.int .i64 a0_1, .int .i64 0, .int .i64 a0_2] rfl (by (try simp only [zU, zV, zW]); first | done | rfl | (simp only [zR, zQ]; rfl)) ?_; (with_reducible refine (spec_l01Between.calls a0_1 0 a0_2 true _ A2.out).mono ?_); rintro e w' ⟨rfl, ⟨nd, rfl⟩⟩; refine ⟨_, rfl, ?_⟩) | (go_at_call 38; (with_reducible refine (spec_l01Between.calls a0_4 0 13 false _ A5.out).mono ?_); rintro e w' ⟨rfl, ⟨nd, rfl⟩⟩))
  go_ret
  exact ⟨rfl, nxD HB⟩
 subst c6
 rw [if_pos rfl] at H
 by_cases c7 : a0_3 = 0
 rotate_left
 ·rw [if_neg c7] at H
  have c7b0 : (a0_3 == 0) = false := beq_eq_false_iff_ne.mpr c7
  have c7b1 : (a0_3 != 0) = true := bne_iff_ne.mpr c7
  obtain rfl := Option.some.inj H
  go_enter Tryz.func90, Tryz.ntmps90
  go_wp2_with (first | ((with_reducible refine gate_dst (N := 1) rfl ?_); refine nxX (N := 1) (cs := #[.slice A0_0 l0_0.length c0_0, .int .i64 a0_1, .int .i64 a0_2, .int .i64 a0_3, .int .i64 a0_4]) (t := 79) ?_; intro gb188 hg w10 hbox hb; have n0_ := nxH hb HB; have n1_ := zA (hbox); clear HB; have HB := n0_; have BK188 := n1_; clear n0_ n1_ ; clear hb hbox hg; obtain ⟨hcz11_0, hcz11_1, hcz11_2, hcz11_3, hcz11_4⟩ := cz5 BK188) | ((with_reducible refine gate_callee (f := 38) rfl ?_); refine goesL_ (some 7) rfl rfl Tryz.func38 (by kernel_rfl) rfl #[.int .i64 a0_1, .int .i64 0, .int .i64 a0_2] rfl (by (try simp only [zU, zV, zW]); first | done | rfl | (simp only [zR, zQ]; rfl)) ?_; (with_reducible refine (spec_l01Between.calls a0_1 0 a0_2 true _ A2.out).mono ?_); rintro e w' ⟨rfl, ⟨nd, rfl⟩⟩; refine ⟨_, rfl, ?_⟩) | (go_at_call 38; (with_reducible refine (spec_l01Between.calls a0_4 0 13 true _ A5.out).mono ?_); rintro e w' ⟨rfl, ⟨nd, rfl⟩⟩))
  go_ret
  exact ⟨rfl, nxD HB⟩
 rw [if_pos c7] at H
 have c7b0 : (a0_3 == 0) = true := beq_iff_eq.mpr c7
 have c7b1 : (a0_3 != 0) = false := bne_eq_false_iff_eq.mpr c7
 clear c7
 obtain rfl := Option.some.inj H
 go_enter Tryz.func90, Tryz.ntmps90
 go_wp2_with (first | ((with_reducible refine gate_dst (N := 1) rfl ?_); refine nxX (N := 1) (cs := #[.slice A0_0 l0_0.length c0_0, .int .i64 a0_1, .int .i64 a0_2, .int .i64 a0_3, .int .i64 a0_4]) (t := 79) ?_; intro gb188 hg w8 hbox hb; have n0_ := nxH hb HB; have n1_ := zA (hbox); clear HB; have HB := n0_; have BK188 := n1_; clear n0_ n1_ ; clear hb hbox hg; obtain ⟨hcz9_0, hcz9_1, hcz9_2, hcz9_3, hcz9_4⟩ := cz5 BK188) | ((with_reducible refine gate_callee (f := 38) rfl ?_); refine goesL_ (some 7) rfl rfl Tryz.func38 (by kernel_rfl) rfl #[.int .i64 a0_1, .int .i64 0, .int .i64 a0_2] rfl (by (try simp only [zU, zV, zW]); first | done | rfl | (simp only [zR, zQ]; rfl)) ?_; (with_reducible refine (spec_l01Between.calls a0_1 0 a0_2 true _ A2.out).mono ?_); rintro e w' ⟨rfl, ⟨nd, rfl⟩⟩; refine ⟨_, rfl, ?_⟩) | (go_at_call 38; (with_reducible refine (spec_l01Between.calls a0_4 0 13 true _ A5.out).mono ?_); rintro e w' ⟨rfl, ⟨nd, rfl⟩⟩))
 go_ret
 exact ⟨rfl, nxD HB⟩
end Go.Proofs.YtilimpjcdeeaiaaGreat.G


namespace Go.Proofs.YtilimpjcdeeaiaaGreat.G
open Go.RowKit Go.Proofs.YtilimpjcdeeaiaaGreatW.PrintWords Go.Proofs.YtilimpjcdeeaiaaGreatW.PrintLast Go.Proofs.YtilimpjcdeeaiaaGreatW.PrintMore
attribute [local go_sem] max2_int min2_int max_two min_two max_three min_three max_four min_four   -- for this text's walks alone
def bits_Mul64.f (a0 : Int) (a1 : Int) : Option (Int × Int) := some (IntKind.u64.wrap ((IntKind.u64.wrap ((IntKind.u64.wrap ((a0 / 4294967296) * (a1 / 4294967296))) + ((IntKind.u64.wrap ((IntKind.u64.wrap ((a0 / 4294967296) * (Go.bits .and .u64 a1 4294967295))) + ((IntKind.u64.wrap ((Go.bits .and .u64 a0 4294967295) * (Go.bits .and .u64 a1 4294967295))) / 4294967296))) / 4294967296))) + ((IntKind.u64.wrap ((Go.bits .and .u64 (IntKind.u64.wrap ((IntKind.u64.wrap ((a0 / 4294967296) * (Go.bits .and .u64 a1 4294967295))) + ((IntKind.u64.wrap ((Go.bits .and .u64 a0 4294967295) * (Go.bits .and .u64 a1 4294967295))) / 4294967296))) 4294967295) + (IntKind.u64.wrap ((Go.bits .and .u64 a0 4294967295) * (a1 / 4294967296))))) / 4294967296)), IntKind.u64.wrap (a0 * a1))
set_option maxHeartbeats 8000000 in
set_option maxRecDepth 100000 in
theorem bits_Mul64.calls (a0 : Int) (a1 : Int) (r1 : Int) (r2 : Int) (w : World) (h : bits_Mul64.f a0 a1 = some (r1, r2)) :
  Calls Tryz.prog 102 #[.int .u64 a0, .int .u64 a1] w fun e w' => e = .returned (.tuple #[.int .u64 r1, .int .u64 r2]) ∧ Drawn0 w w' := by
 have H : (some (IntKind.u64.wrap ((IntKind.u64.wrap ((IntKind.u64.wrap ((a0 / 4294967296) * (a1 / 4294967296))) + ((IntKind.u64.wrap ((IntKind.u64.wrap ((a0 / 4294967296) * (Go.bits .and .u64 a1 4294967295))) + ((IntKind.u64.wrap ((Go.bits .and .u64 a0 4294967295) * (Go.bits .and .u64 a1 4294967295))) / 4294967296))) / 4294967296))) + ((IntKind.u64.wrap ((Go.bits .and .u64 (IntKind.u64.wrap ((IntKind.u64.wrap ((a0 / 4294967296) * (Go.bits .and .u64 a1 4294967295))) + ((IntKind.u64.wrap ((Go.bits .and .u64 a0 4294967295) * (Go.bits .and .u64 a1 4294967295))) / 4294967296))) 4294967295) + (IntKind.u64.wrap ((Go.bits .and .u64 a0 4294967295) * (a1 / 4294967296))))) / 4294967296)), IntKind.u64.wrap (a0 * a1))) = some (r1, r2) := h
 clear h
 simp only [Option.some.injEq, Prod.mk.injEq] at H
 obtain ⟨rfl, rfl⟩ := H
 go_enter Tryz.func102, Tryz.ntmps102
 go_wp2
 go_ret2
 exact ⟨by first | rfl | (simp; done) | (simp [*]; done), by repeat (first | exact Drawn0.refl _ | apply Drawn0.step)⟩
end Go.Proofs.YtilimpjcdeeaiaaGreat.G


namespace Go.Proofs.YtilimpjcdeeaiaaGreat.G
open Go.RowKit Go.Proofs.YtilimpjcdeeaiaaGreatW.PrintWords Go.Proofs.YtilimpjcdeeaiaaGreatW.PrintLast Go.Proofs.YtilimpjcdeeaiaaGreatW.PrintMore
attribute [local go_sem] max2_int min2_int max_two min_two max_three min_three max_four min_four   -- for this text's walks alone
def bits_Mul.f (a0 : Int) (a1 : Int) : Option (Int × Int) := (bits_Mul64.f a0 a1).bind fun bt382 => (some (bt382.1, bt382.2))
set_option maxHeartbeats 8000000 in
set_option maxRecDepth 100000 in
theorem bits_Mul.calls (a0 : Int) (a1 : Int) (r1 : Int) (r2 : Int) (w : World) (h : bits_Mul.f a0 a1 = some (r1, r2)) :
  Calls Tryz.prog 100 #[.int .u64 a0, .int .u64 a1] w fun e w' => e = .returned (.tuple #[.int .u64 r1, .int .u64 r2]) ∧ Drawn0 w w' := by
 have H : ((bits_Mul64.f a0 a1).bind fun bt382 => (some (bt382.1, bt382.2))) = some (r1, r2) := h
 clear h
 replace H := Option.bind_eq_some_iff.mp H
 obtain ⟨⟨t382, t383⟩, A30, H⟩ := H
 try dsimp only at H
 have A3 := zA A30
 clear A30
 simp only [Option.some.injEq, Prod.mk.injEq] at H
 obtain ⟨rfl, rfl⟩ := H
 go_enter Tryz.func100, Tryz.ntmps100
 go_wp2_with (first | ((with_reducible refine gate_callee (f := 102) rfl ?_); refine goesL_ (some 25) rfl rfl Tryz.func102 (by kernel_rfl) rfl #[.int .u64 a0, .int .u64 a1] rfl (by (try simp only [zU, zV, zW]); first | done | rfl | (simp only [zR, zQ]; rfl)) ?_; (with_reducible refine (bits_Mul64.calls a0 a1 t382 t383 _ A3.out).mono ?_); rintro e w' ⟨rfl, ⟨nd, rfl⟩⟩; refine ⟨_, rfl, ?_⟩))
 go_ret2
 exact ⟨by first | rfl | (simp; done) | (simp [*]; done), by repeat (first | exact Drawn0.refl _ | apply Drawn0.step)⟩
end Go.Proofs.YtilimpjcdeeaiaaGreat.G


namespace Go.Proofs.YtilimpjcdeeaiaaGreat.G
open Go.RowKit Go.Proofs.YtilimpjcdeeaiaaGreatW.PrintWords Go.Proofs.YtilimpjcdeeaiaaGreatW.PrintLast Go.Proofs.YtilimpjcdeeaiaaGreatW.PrintMore
attribute [local go_sem] max2_int min2_int max_two min_two max_three min_three max_four min_four   -- for this text's walks alone
theorem R_block1 (W : World) (g base : Nat) (xs : List Int) (hb : base ≤ g) (h : W.heap[g]? = some (.cells (nums .i64 xs).toArray 3 (0, 0))) (hm : xs.length ≤ 1000000) : Kd.R (Kd.int .i64) 3 W base (fun k => k = g) (.slice (some ⟨g, 0, none⟩) xs.length xs.length) xs := by
 have hl : (nums .i64 xs).length = xs.length := by simp [nums]
 exact Kd.R_of_own ⟨by rw [Nat.mul_one]; exact hl, .inr ⟨g, xs.length, _, rfl, hb, h, Nat.le_refl _, by simp only [maxLen]; omega, by rw [Nat.mul_one]; exact hl, by rw [Nat.mul_one, ← hl]; exact List.take_length⟩⟩ (fun k hk => by injection hk with hk; exact hk.symm)
theorem R_block (W : World) (g base : Nat) (xs : List Int) (hb : base ≤ g) (h : W.heap[g]? = some (.cells (nums .i64 xs).toArray 3 (0, 0))) (hm : xs.length ≤ 1000000) : Kd.R (Kd.int .i64) 3 W base (fun _ => True) (.slice (some ⟨g, 0, none⟩) xs.length xs.length) xs := zP (R_block1 W g base xs hb h hm) (fun _ _ => trivial)
end Go.Proofs.YtilimpjcdeeaiaaGreat.G


namespace Go.Proofs.YtilimpjcdeeaiaaGreat.G
open Go.RowKit Go.Proofs.YtilimpjcdeeaiaaGreatW.PrintWords Go.Proofs.YtilimpjcdeeaiaaGreatW.PrintLast Go.Proofs.YtilimpjcdeeaiaaGreatW.PrintMore
attribute [local go_sem] max2_int min2_int max_two min_two max_three min_three max_four min_four   -- for this text's walks alone
--import Derived.Laws.CopyOwn
--import Derived.Deep.RegionLaw
--import Derived.StillTailTactics
def repV (v : Int) (m : Nat) : List Value := List.replicate m (.int .i64 v) ++ List.replicate (64 - m) (.int .i64 0)
theorem rep_cuts (g m : Nat) (hm : m < 64) : (∀ W : World, (Instr.slice 66 (.slice (some ⟨g, 0, none⟩) 64 64) (some (.int .i64 (m : Int))) none none).run Tryz.prog W = .ok (.slice (some ⟨g, m, none⟩) (64 - m) (64 - m)) W) ∧
  (∀ W : World, (Instr.slice 66 (.slice (some ⟨g, 0, none⟩) 64 64) none (some (.int .i64 (m : Int))) none).run Tryz.prog W = .ok (.slice (some ⟨g, 0, none⟩) m 64) W) := by
 have hu : Tryz.prog.underlying 66 = some (.slice (Tryz.prog.elem 66)) := by kernel_rfl
 have hel : Tryz.prog.elem 66 = 3 := by kernel_rfl
 obtain ⟨i, hi, _, hsz, _⟩ := info_parts info3
 refine ⟨fun W => ?_, fun W => ?_⟩
 ·rw [run_slice_l W _ (some ⟨g, 0, none⟩) 64 64 hu .i64 (m : Int) (by omega) (by omega), hel]
  simp [sizeOf, typeInfo, hi, hsz, sliced, Result.andThen, Addr.add]
  split
  ·omega
  ·split
   ·rename_i h; rw [h]
   ·rfl
 ·rw [run_slice_h W _ (some ⟨g, 0, none⟩) 64 64 hu .i64 (m : Int) (by omega) (by omega), hel]
  simp [sizeOf, typeInfo, hi, hsz, sliced, Result.andThen, Addr.add]
theorem repV_len (v : Int) (m : Nat) (h : m ≤ 64) : (repV v m).length = 64 := by simp [repV]; omega
theorem repV_get (v : Int) (m j : Nat) (h : j < m) : (repV v m)[j]? = some (.int .i64 v) := by
 unfold repV
 rw [List.getElem?_append_left (by simp; exact h)]
 simp [h]
theorem repV_splice (v : Int) (m j : Nat) (h : m + j ≤ 64) : splice (repV v m) m (List.replicate j (.int .i64 v)) = repV v (m + j) := by
 unfold splice repV
 rw [List.take_append_of_le_length (by simp), List.take_of_length_le (by simp), List.drop_append]
 simp only [List.length_replicate, List.drop_replicate]
 rw [show m - (m + j) = 0 by omega, show 64 - m - (m + j - m) = 64 - (m + j) by omega, List.replicate_zero, List.nil_append, ← List.append_assoc, List.replicate_append_replicate]
set_option maxRecDepth 100000 in
set_option maxHeartbeats 1000000 in
theorem repeat64_calls (ax : Addr) (cx : Nat) (v : Int) (w : World) (hx : w.cell? ax = some (.int .i64 v)) (hcx : 1 ≤ cx) :
  Calls Tryz.prog 98 #[.slice (some ax) 1 cx, .int .i64 64] w fun e w' => ∃ v0_ : Value, e = .returned (v0_) ∧ Kd.R (Kd.int .i64) 3 w' w.heap.size (fun _ => True) v0_ (List.replicate 64 v) ∧ Below w.heap.size w w' := by
 have hb := World.block_lt_of_cell? w _ hx
 have hM := zA (show bits_Mul.f 1 64 = some (0, 64) by kernel_rfl)
 go_enter Tryz.func98, Tryz.ntmps98
 obtain ⟨i3, hi3, hz3, hsz3, hby3⟩ := info_parts info3
 have hmk : ∀ W : World, (Instr.makeSlice 66 (.int .i64 64) (.int .i64 64)).run Tryz.prog W = .ok (.slice (some ⟨W.heap.size, 0, none⟩) 64 64) (W.alloc (.cells (repV v 0).toArray 3)) := by
  intro W
  have h := run_make (P := Tryz.prog) W 66 3 i3 (.int .i64 0) Tryz.underlying66 hi3 hz3 .i64 .i64 64 64 (by omega) (by omega) (by rw [hby3]; omega) (by omega)
  rw [h, hsz3, show Int.toNat 64 * 1 = 64 from rfl, show madeCells (Value.int IntKind.i64 0).cells 64 = (repV v 0).toArray from by rw [show repV v 0 = List.replicate 64 (.int .i64 0) from rfl]; kernel_rfl]; rfl
 clear hi3 hz3 hsz3 hby3
 go_upto_region 7 with (first | (go_at_call 100; (with_reducible refine (bits_Mul.calls 1 64 0 64 _ hM.out).mono ?_); rintro e w' ⟨rfl, ⟨nd, rfl⟩⟩))
 clear hmk
 have k1 := blk_new (w.drewN nd) (Obj.cells (repV v 0).toArray 3)
 have hb1 := zC (zB (Below.refl w.heap.size w) nd) (Obj.cells (repV v 0).toArray 3)
 have hx1 : ((w.drewN nd).alloc (Obj.cells (repV v 0).toArray 3)).cell? ax = some (.int .i64 v) := (World.cell?_alloc_lt (w.drewN nd) (Obj.cells (repV v 0).toArray 3) ax hb).trans hx
 rw [show (w.drewN nd).heap.size = w.heap.size from rfl] at k1
 generalize (w.drewN nd).alloc (Obj.cells (repV v 0).toArray 3) = W1 at k1 hb1 hx1 ⊢
 have HB := zA hb1
 have HG := zA k1
 have HX := zA hx1
 have hu : Tryz.prog.underlying 66 = some (.slice 3) := Tryz.underlying66
 have hsz : (Tryz.prog.info? 3).map (·.size) = some 1 := by kernel_rfl
 have HU := zA hu
 have HSZ := zA hsz
 have HSRC := zA (show ∀ (j : Nat) (u : Value), [Value.int .i64 v][j]? = some u → W1.cell? (ax.add j) = some u from fun j u hj => by
  cases j with
  | zero =>
   simp at hj
   subst hj
   simpa [Addr.add] using hx1
  | succ j => simp at hj)
 clear hb1 k1 hx1 hu hsz hb hx
 go_wp2_with (first | ((refine wpList_copy_splice rfl (.tmp 31) (.tmp 32) 66 66 rfl 3 HU.out HSZ.out (some ⟨w.heap.size, 0, none⟩) (some ax) 64 64 1 cx rfl rfl w.heap.size 0 (repV v 0) 3 HG.out [.int .i64 v] rfl (fun _ => ⟨rfl, ax, rfl, HSRC.out⟩) (by simp [repV]) (by intro u hu; simp at hu; subst hu; rfl) w.heap.size w HB.out (Nat.le_refl _) ?_); intro w4 hg4 hb4; have HG4 := zA (show w4.heap[w.heap.size]? = some (.cells (repV v 1).toArray 3 (0, 0)) from hg4); have HB4 := zA hb4; clear hg4 hb4))
 clear HG HB
 go_loopw [8] (fun v8 w' => ∃ m : Nat, v8 = .int .i64 m ∧ 1 ≤ m ∧ m ≤ 64 ∧ Aside0 (w'.heap[w.heap.size]? = some (.cells (repV v m).toArray 3 (0, 0))) ∧ Aside0 (Below w.heap.size w w')) (fun v8 w' => 64 - (intOf v8).toNat)
 case atStart => exact ⟨1, rfl, by omega, by omega, HG4, HB4⟩
 case round =>
  clear HG4 HB4
  obtain ⟨m, rfl, m1, m64, HG, HB⟩ := hrel
  by_cases hlt : m < 64
  ·obtain ⟨hc1, hc2⟩ := rep_cuts w.heap.size m hlt
   obtain ⟨q, hq⟩ : ∃ q, q = min m (64 - m) := ⟨_, rfl⟩
   have q1 : 1 ≤ q := by omega
   have q2 : m + q ≤ 64 := by omega
   have hs1 : wrap64 ((m : Int) + (q : Int)) = ((m + q : Nat) : Int) := by rw [wrap_in _ (by omega) (by omega)]; omega
   have hs2 : IntKind.i64.wrap ((m : Int) + (q : Int)) = ((m + q : Nat) : Int) := (i64_w _).trans hs1
   have HCP := zA (show ∀ (j : Nat) (u : Value), (List.replicate q (Value.int .i64 v))[j]? = some u → wr.drew.cell? ((⟨w.heap.size, 0, none⟩ : Addr).add j) = some u from fun j u hj => by
    obtain ⟨hj1, hj2⟩ := List.getElem?_eq_some_iff.1 hj
    rw [List.length_replicate] at hj1
    rw [List.getElem_replicate] at hj2
    subst hj2
    have h2 := (zK (zH HG.out) j).trans (show (repV v m).toArray[j]? = some (Value.int .i64 v) from (List.getElem?_toArray).trans (repV_get v m j (by omega)))
    rw [show (⟨w.heap.size, 0, none⟩ : Addr).add j = ⟨w.heap.size, j, none⟩ from by cases j <;> simp [Addr.add]]
    exact h2)
   have HN := zA (show (List.replicate q (Value.int .i64 v)).length = Nat.min m (64 - m) by rw [List.length_replicate]; exact hq)
   have HF := zA (show m + (List.replicate q (Value.int .i64 v)).length ≤ (repV v m).length by rw [List.length_replicate, repV_len v m m64]; exact q2)
   clear hq
   have HG2 := zA (show wr.drew.heap[w.heap.size]? = some (.cells (repV v m).toArray 3 (0, 0)) from zH HG.out)
   have HB2 := zA (below_drew HB.out)
   have HONE := zA (show ∀ u ∈ List.replicate q (Value.int .i64 v), u.oneCell' = true from fun u hu => by rw [(List.mem_replicate.1 hu).2]; rfl)
   have HPOS := zA (show 0 < (List.replicate q (Value.int .i64 v)).length → (some (⟨w.heap.size, m, none⟩ : Addr) = some ⟨w.heap.size, m, none⟩ ∧ ∃ ad : Addr, some (⟨w.heap.size, 0, none⟩ : Addr) = some ad ∧ ∀ j u, (List.replicate q (Value.int .i64 v))[j]? = some u → wr.drew.cell? (ad.add j) = some u) from fun _ => ⟨rfl, _, rfl, HCP.out⟩)
   go_wp2
   go_region_law (refine step_copy_splice (w := wr.drew) (by rfl) (.tmp 41) (.tmp 44) 66 66 (by rfl) 3 HU.out HSZ.out (some ⟨w.heap.size, m, none⟩) (some ⟨w.heap.size, 0, none⟩) (64 - m) (64 - m) m 64 (by first | (go_simp; done) | (go_simp; rfl)) (by first | (go_simp; done) | (go_simp; rfl)) w.heap.size m (repV v m) 3 HG2.out (List.replicate q (.int .i64 v)) HN.out (fun _ => ⟨rfl, _, rfl, HCP.out⟩) HF.out HONE.out w.heap.size w HB2.out (Nat.le_refl _) ?_; intro w4 hg4 hb4)
   have HG4 := zA (show w4.heap[w.heap.size]? = some (.cells (repV v (m + q)).toArray 3 (0, 0)) by have h_ : w4.heap[w.heap.size]? = some (.cells (splice (repV v m) m (List.replicate q (.int .i64 v))).toArray 3 (0, 0)) := hg4; rw [repV_splice v m q q2] at h_; exact h_)
   have HB4 := zA hb4
   clear hg4 hb4 HG HB HG2 HB2 HCP HN HF HONE HPOS
   go_wp2
   simp only [Act.put, List.getElem_toArray, List.getElem_cons_succ, List.getElem_cons_zero, List.setIfInBounds_toArray, List.set_cons_zero, List.set_cons_succ]
   go_roundw
   case rel => exact ⟨m + q, by first | go_num | (simp; done), by omega, by omega, ⟨by repeat (first | exact HG4.out | apply zG | apply zH)⟩, ⟨by repeat (first | exact HB4.out | apply zB | apply below_drew)⟩⟩
   case measure => simp [intOf]; omega
  ·obtain rfl : m = 64 := by omega
   go_wp2
   go_ret
   exact ⟨_, rfl, by repeat (first | exact R_block wr w.heap.size w.heap.size (List.replicate 64 v) (Nat.le_refl _) HG.out (by simp) | apply zM | apply zO), by repeat (first | exact HB.out | apply zB | apply below_drew)⟩
end Go.Proofs.YtilimpjcdeeaiaaGreat.G


namespace Go.Proofs.YtilimpjcdeeaiaaGreat.G
open Go.RowKit Go.Proofs.YtilimpjcdeeaiaaGreatW.PrintWords Go.Proofs.YtilimpjcdeeaiaaGreatW.PrintLast Go.Proofs.YtilimpjcdeeaiaaGreatW.PrintMore
attribute [local go_sem] max2_int min2_int max_two min_two max_three min_three max_four min_four   -- for this text's walks alone
--import Derived.Laws.CopyOwn
def untoldM (n : Nat) : List (List Int) := List.replicate n (List.replicate 64 (-1))
def impl_untold.f (a0_0 a0_1 a0_2 a0_3 : Int) (l0_4 : List S53) : Option (List (List Int)) := if l0_4.length ≤ 1000000 then some (untoldM l0_4.length) else none
def UntR (w : World) (n : Nat) (v3 v8 : Value) (w' : World) : Prop :=
 ∃ i : Nat, v8 = .int .i64 i ∧ i ≤ n ∧ Aside0 (Kd.S (Kd.slice 3 (Kd.int .i64)) 66 w' w.heap.size (fun _ => True) v3 (untoldM i)) ∧ Aside0 (Below w.heap.size w w')
set_option maxRecDepth 100000 in
set_option maxHeartbeats 4000000 in
theorem impl_untold.calls (a0_0 a0_1 a0_2 a0_3 : Int) (A0_4 : Option Addr) (c0_4 : Nat) (l0_4 : List S53) (r : List (List Int)) (w : World) (hr0_4 : Kd.C k53 w A0_4 l0_4.length l0_4) (hc0_4 : l0_4.length ≤ c0_4) (h : impl_untold.f a0_0 a0_1 a0_2 a0_3 l0_4 = some r) :
  Calls Tryz.prog 83 #[.agg #[.int .i64 a0_0, .int .i64 a0_1, .int .i64 a0_2, .int .i64 a0_3, .slice A0_4 l0_4.length c0_4]] w fun e w' => ∃ v0_ : Value, e = .returned (v0_) ∧ Kd.S (Kd.slice 3 (Kd.int .i64)) 66 w' w.heap.size (fun _ => True) v0_ r ∧ Below w.heap.size w w' := by
 unfold impl_untold.f at h
 split at h
 case isFalse => cases h
 rename_i hn
 obtain rfl := Option.some.inj h
 clear h hr0_4 hc0_4
 go_enter Tryz.func83, Tryz.ntmps83
 go_upto_region 1 with (fail)
 have k1 := blk_new w (Obj.cells #[.int .i64 a0_0, .int .i64 a0_1, .int .i64 a0_2, .int .i64 a0_3, .slice A0_4 l0_4.length c0_4] 37)
 have HB0 := zA (show Below w.heap.size w (w.alloc (Obj.cells #[.int .i64 a0_0, .int .i64 a0_1, .int .i64 a0_2, .int .i64 a0_3, .slice A0_4 l0_4.length c0_4] 37)) from zC (Below.refl _ _) _)
 generalize w.alloc (Obj.cells #[.int .i64 a0_0, .int .i64 a0_1, .int .i64 a0_2, .int .i64 a0_3, .slice A0_4 l0_4.length c0_4] 37) = W1 at k1 HB0 ⊢
 obtain ⟨n, hnn⟩ : ∃ n, n = l0_4.length := ⟨_, rfl⟩
 rw [← hnn] at k1 hn ⊢
 have K1 := zA k1
 clear k1
 go_upto_region 2 with (first | ((with_reducible refine gate_dst (N := 4) rfl ?_); refine Kd.S_lit (w0 := w) (Kd.slice 3 (Kd.int .i64)) w.heap.size 66 ?hg (N := 4) ?hd (xs := ([] : List (List Int))) (inner := []) (ok := fun _ => True) (okp := fun _ => False) ?hr ?hp (fun _ hk => hk.elim) trivial HB0.out HB0.out.size (by simp) ?_; (case hd => rfl); (case hg => rfl); (case hr => first | (go_simp; done) | (go_simp; rfl)); (case hp => exact (Reps.none _ _)); intro v4 w2 ho hb hg_ hnew_; have HO := zA ho; have HB := zA hb; have K2 := zA (blk_grown K1.out hg_ (by simp)); clear ho hb hg_ hnew_))
 have q4 := zK K2.out 4
 simp at q4
 clear K1 HB0
 go_wp2
 clear q4 K2
 go_loopw [3, 8] (fun v3 v8 w' => UntR w n v3 v8 w') (fun v3 v8 w' => n - (intOf v8).toNat)
 case atStart => exact ⟨0, rfl, Nat.zero_le _, ⟨by repeat (first | exact HO.out | apply zZ | apply yA)⟩, ⟨by repeat (first | exact HB.out | apply zB | apply below_drew)⟩⟩
 case round =>
  clear HO HB
  obtain ⟨i, rfl, hi, HO, HB⟩ := hrel
  obtain ⟨A7, c7, e7⟩ := Kd.R_slice (Kd.S_R HO.out)
  subst e7
  by_cases hlt : i < n
  rotate_left
  ·have HO2 := zA (show Kd.S (Kd.slice 3 (Kd.int .i64)) 66 wr w.heap.size (fun _ => True) (.slice A7 (untoldM i).length c7) (untoldM l0_4.length) by rw [← hnn, ← show i = n by omega]; exact HO.out)
   obtain rfl : i = n := by omega
   clear HO
   go_wp2
   go_ret
   exact ⟨_, rfl, by repeat (first | exact HO2.out | apply zZ | apply yA), by repeat (first | exact HB.out | apply zB | apply below_drew)⟩
  have hlen : (untoldM i).length = i := by simp [untoldM]
  rw [hlen] at HO
  (try rw [hlen])
  go_wp2_with fail
  refine (repeat64_calls ⟨wr.heap.size, 0, none⟩ 1 (-1) _ (by simp) (by omega)).mono ?_
  rintro e_ w2 ⟨v, rfl, hrow, hb⟩
  have hb2 : Below wr.heap.size wr w2 := Below.trans (zC (Below.refl _ _) _) (hb.mono (by rw [yD]; omega))
  have HROW := zA (Kd.R_lower (zP (ok' := fun k => wr.heap.size ≤ k) (Kd.R_bound hrow) (fun k hk => by have := hk.2.1; rw [yD] at this; omega)) (show w.heap.size ≤ (wr.alloc (Obj.cells #[Value.int IntKind.i64 (-1)] 3)).heap.size by rw [yD]; have := HB.out.size; omega))
  have HOLD := zA (yB (ok' := fun k => True ∧ ¬ wr.heap.size ≤ k) (Kd.S_old HO.out hb2) (fun k hk => ⟨hk.1, Nat.not_le.2 hk.2⟩))
  have HB3 := zA (show Below w.heap.size w w2 from Below.trans HB.out (hb2.mono HB.out.size))
  have HNE := zA (show ∀ k, wr.heap.size ≤ k → True ∧ some k ≠ (Value.slice A7 i c7).ownBlock from fun k hk => ⟨trivial, fun e => absurd (Kd.S_lt HO.out k e.symm) (by omega)⟩)
  obtain ⟨Ar, cr, er⟩ := Kd.R_slice hrow
  rw [List.length_replicate] at er
  subst er
  obtain ⟨row, hrw⟩ : ∃ row, row = List.replicate 64 (-1 : Int) := ⟨_, rfl⟩
  obtain ⟨out, hout⟩ : ∃ out, out = untoldM i := ⟨_, rfl⟩
  rw [← hrw] at HROW
  rw [← hout] at HOLD hlen
  have HOUT := zA (show untoldM (i + 1) = out ++ [row] by rw [hout, hrw]; unfold untoldM; rw [List.replicate_succ'])
  clear hrow hb hb2 hrw hout HO HB
  go_wp2_with (first | ((with_reducible refine gate_builtin (b := .append) (xs := #[.tmp 10, .tmp 13]) rfl ?_); at_builtin; refine Kd.S_append (Kd.slice 3 (Kd.int .i64)) (w0 := w) w.heap.size rfl (.tmp 10) (.tmp 13) 25 66 (.slice none 0 0) 24 rfl Tryz.underlying25 info66 rfl (by decide) (by omega) _ out row [.slice Ar 64 cr] (fun _ => True) (fun k => wr.heap.size ≤ k) rfl rfl ⟨_, rfl, HROW.out⟩ HNE.out (fun k hk => trivial) HOLD.out HB3.out HB3.out.size (by omega) ?_; intro v8 w3 ho hb hg hat; have HO2 := zA ho; have HB4 := zA hb; have HG := zA hg; clear ho hb hg hat))
  go_roundw
  case rel => exact ⟨i + 1, by go_num, by omega, ⟨by rw [HOUT.out]; repeat (first | exact HO2.out | apply zZ | apply yA)⟩, ⟨by repeat (first | exact HB4.out | apply zB | apply below_drew)⟩⟩
  case measure => simp [intOf]; omega
end Go.Proofs.YtilimpjcdeeaiaaGreat.G


namespace Go.Proofs.YtilimpjcdeeaiaaGreat.G
open Go.RowKit Go.Proofs.YtilimpjcdeeaiaaGreatW.PrintWords Go.Proofs.YtilimpjcdeeaiaaGreatW.PrintLast Go.Proofs.YtilimpjcdeeaiaaGreatW.PrintMore
attribute [local go_sem] max2_int min2_int max_two min_two max_three min_three max_four min_four   -- for this text's walks alone
abbrev SN := S79
def tellK (want lo : Int) (c : Nat) : Nat → Nat → List (List Int) → Option (List (List Int))
 | 0, _, L => some L
 | m + 1, k, L => if rd (L.getD c []) (k : Int) = want then tellK want lo c m (k + 1) (L.set c ((L.getD c []).set k lo)) else none
def tellC (want lo : Int) (fr n : Nat) : List Int → List (List Int) → Option (List (List Int))
 | [], L => some L
 | c :: cs, L => (tellK want lo c.toNat n fr L).bind (tellC want lo fr n cs)
def Rows64 (n : Nat) (L : List (List Int)) : Prop := L.length = n ∧ ∀ x ∈ L, x.length = 64
theorem Rows64.get {n : Nat} {L : List (List Int)} (h : Rows64 n L) (i : Nat) (hi : i < n) : (L.getD i []).length = 64 := by
 have hl : i < L.length := by rw [h.1]; exact hi
 rw [List.getD_eq_getElem?_getD, List.getElem?_eq_getElem hl]
 exact h.2 _ (List.getElem_mem hl)
theorem Rows64.set {n : Nat} {L : List (List Int)} (h : Rows64 n L) (i k : Nat) (v : Int) (hi : i < n) : Rows64 n (L.set i ((L.getD i []).set k v)) := by
 refine ⟨by rw [List.length_set]; exact h.1, fun x hx => ?_⟩
 rcases List.mem_or_eq_of_mem_set hx with hx | hx
 ·exact h.2 x hx
 ·rw [hx, List.length_set]; exact h.get i hi
def tellR (s : SN) : List (List Int) → Option (List (List Int)) := tellC (if s.f3 > 0 then s.f3 else -1) s.f4 s.f1.toNat (s.f2 - s.f1 + 1).toNat s.f0
end Go.Proofs.YtilimpjcdeeaiaaGreat.G


namespace Go.Proofs.YtilimpjcdeeaiaaGreat.G
open Go.RowKit Go.Proofs.YtilimpjcdeeaiaaGreatW.PrintWords Go.Proofs.YtilimpjcdeeaiaaGreatW.PrintLast Go.Proofs.YtilimpjcdeeaiaaGreatW.PrintMore
attribute [local go_sem] max2_int min2_int max_two min_two max_three min_three max_four min_four   -- for this text's walks alone
def cgo (n : Int) (l : List Int) : Nat → Nat → Bool
 | _, 0 => true
 | i, d + 1 => (decide (0 ≤ rd l i) && decide (rd l i ≤ n - 1)) && ((decide (i = 0) || decide (rd l ((i : Int) - 1) < rd l i)) && cgo n l (i + 1) d)
def compsOkM (n : Int) (l : List Int) : Bool := cgo n l 0 l.length && decide (0 < l.length)
def passM (fr te hi lo : Int) : Bool := (decide (0 ≤ fr) && decide (fr ≤ te)) && (decide (te ≤ 63) && ((decide (0 ≤ lo) && decide (lo ≤ 13)) && (decide (hi = 0) || decide (hi = lo + 1))))
def scanOkM (n : Int) (s : SN) : Bool := compsOkM n s.f0 && passM s.f1 s.f2 s.f3 s.f4
def leftGo : List SN → List (List Int) → Option (List (List Int))
 | [], L => some L
 | s :: ss, L => (tellR s L).bind (leftGo ss)
def leftM (n : Nat) (script : List SN) : Option (List (List Int)) := if script.length ≤ 40 ∧ (script.all (scanOkM n)) = true then leftGo script (untoldM n) else none
theorem cgo_in (n : Int) (l : List Int) : ∀ (d i : Nat), i + d = l.length → cgo n l i d = true → ∀ j, i ≤ j → j < l.length → 0 ≤ rd l j ∧ rd l j ≤ n - 1
 | 0, i, hi, _, j, h1, h2 => by omega
 | d + 1, i, hi, h, j, h1, h2 => by
  rw [cgo] at h
  simp only [Bool.and_eq_true, decide_eq_true_eq] at h
  by_cases e : j = i
  ·subst e; exact h.1
  ·exact cgo_in n l d (i + 1) (by omega) h.2.2 j (by omega) h2
theorem cgo_rise (n : Int) (l : List Int) : ∀ (d i : Nat), i + d = l.length → cgo n l i d = true → ∀ j, i ≤ j → j < l.length → 0 < j → rd l ((j : Int) - 1) < rd l j
 | 0, i, hi, _, j, h1, h2, _ => by omega
 | d + 1, i, hi, h, j, h1, h2, h3 => by
  rw [cgo] at h
  simp only [Bool.and_eq_true, Bool.or_eq_true, decide_eq_true_eq] at h
  by_cases e : j = i
  ·subst e
   rcases h.2.1 with h4 | h4
   ·omega
   ·exact h4
  ·exact cgo_rise n l d (i + 1) (by omega) h.2.2 j (by omega) h2 h3
theorem comps_len {n : Int} {l : List Int} (h : compsOkM n l = true) : 1 ≤ l.length ∧ (l.length : Int) ≤ n := by
 unfold compsOkM at h
 rw [Bool.and_eq_true, decide_eq_true_eq] at h
 have h1 := cgo_in n l l.length 0 (by omega) h.1
 have h2 := cgo_rise n l l.length 0 (by omega) h.1
 have h3 : ∀ j : Nat, j < l.length → (j : Int) ≤ rd l j := by
  intro j
  induction j with
  | zero => intro hj; exact (h1 0 (by omega) hj).1
  | succ j ih =>
   intro hj
   have h4 := h2 (j + 1) (by omega) hj (by omega)
   rw [show ((j + 1 : Nat) : Int) - 1 = (j : Int) by omega] at h4
   have := ih (by omega)
   omega
 have h5 := h3 (l.length - 1) (by omega)
 have h6 := (h1 (l.length - 1) (by omega) (by omega)).2
 exact ⟨h.2, by omega⟩
theorem comps_in {n : Int} {l : List Int} (h : compsOkM n l = true) : ∀ c ∈ l, 0 ≤ c ∧ c < n := by
 unfold compsOkM at h
 rw [Bool.and_eq_true, decide_eq_true_eq] at h
 intro c hc
 obtain ⟨i, hi, rfl⟩ := List.getElem_of_mem hc
 have := cgo_in n l l.length 0 (by omega) h.1 i (by omega) hi
 rw [rd_nat l i hi] at this
 omega
theorem pass_of {fr te hi lo : Int} (h : passM fr te hi lo = true) : 0 ≤ fr ∧ fr ≤ te ∧ te ≤ 63 ∧ 0 ≤ lo ∧ lo ≤ 13 ∧ (hi = 0 ∨ hi = lo + 1) := by
 unfold passM at h
 simp only [Bool.and_eq_true, Bool.or_eq_true, decide_eq_true_eq] at h
 exact ⟨h.1.1, h.1.2, h.2.1, h.2.2.1.1, h.2.2.1.2, h.2.2.2⟩
def leftRes (o : Option (List (List Int))) : List (List Int) × Bool := match o with
 | some L => (L, true)
 | none => ([], false)
def leftGo2 (n : Nat) : List SN → List (List Int) → Option (List (List Int))
 | [], L => some L
 | s :: ss, L => if scanOkM n s = true then (tellR s L).bind (leftGo2 n ss) else none
theorem leftGo2_eq (n : Nat) : ∀ (ss : List SN) (L : List (List Int)), leftGo2 n ss L = if ss.all (scanOkM n) = true then leftGo ss L else none
 | [], L => rfl
 | s :: ss, L => by
  rw [leftGo2, leftGo, List.all_cons]
  by_cases h : scanOkM n s = true
  ·rw [if_pos h, h, Bool.true_and, funext (leftGo2_eq n ss)]
   by_cases h2 : ss.all (scanOkM n) = true
   ·rw [if_pos h2]
    simp only [h2, if_true]
   ·rw [if_neg h2]
    simp only [h2, if_false]
    cases tellR s L <;> rfl
  ·rw [if_neg h, Bool.eq_false_iff.2 h, Bool.false_and, if_neg Bool.false_ne_true]
theorem Rows64.put {n : Nat} {L : List (List Int)} (h : Rows64 n L) (i k : Nat) (v : Int) : Rows64 n (L.set i ((L.getD i []).set k v)) := by
 by_cases hi : i < n
 ·exact h.set i k v hi
 ·rw [List.set_eq_of_length_le (by rw [h.1]; omega)]; exact h
theorem tellK_rows (want lo : Int) (c n : Nat) : ∀ (m k : Nat) (L L' : List (List Int)), Rows64 n L → tellK want lo c m k L = some L' → Rows64 n L'
 | 0, k, L, L', h, e => by rw [tellK] at e; rw [← Option.some.inj e]; exact h
 | m + 1, k, L, L', h, e => by
  rw [tellK] at e
  split at e
  ·exact tellK_rows want lo c n m (k + 1) _ L' (h.put c k lo) e
  ·cases e
theorem tellC_rows (want lo : Int) (fr m n : Nat) : ∀ (cs : List Int) (L L' : List (List Int)), Rows64 n L → tellC want lo fr m cs L = some L' → Rows64 n L'
 | [], L, L', h, e => by rw [tellC] at e; rw [← Option.some.inj e]; exact h
 | c :: cs, L, L', h, e => by
  rw [tellC] at e
  obtain ⟨L1, e1, e2⟩ := Option.bind_eq_some_iff.1 e
  exact tellC_rows want lo fr m n cs L1 L' (tellK_rows want lo c.toNat n m fr L L1 h e1) e2
theorem leftGo_rows (n : Nat) : ∀ (ss : List SN) (L L' : List (List Int)), Rows64 n L → leftGo ss L = some L' → Rows64 n L'
 | [], L, L', h, e => by rw [leftGo] at e; rw [← Option.some.inj e]; exact h
 | s :: ss, L, L', h, e => by
  rw [leftGo] at e
  obtain ⟨L1, e1, e2⟩ := Option.bind_eq_some_iff.1 e
  exact leftGo_rows n ss L1 L' (tellC_rows _ _ _ _ n s.f0 L L1 h e1) e2
theorem untold64' (n : Nat) : Rows64 n (untoldM n) := ⟨by simp [untoldM], fun x hx => by rw [(List.mem_replicate.1 hx).2]; simp⟩
theorem leftM_rows {n : Nat} {script : List SN} {L : List (List Int)} (h : leftM n script = some L) : Rows64 n L := by
 unfold leftM at h
 split at h
 ·exact leftGo_rows n script (untoldM n) L (untold64' n) h
 ·cases h
def scriptOkM (p w h r : Int) (l : List SC) (script : List SN) : Bool := frameOkM p w h r l && (match leftM l.length script with
 | some L => L.all (allW 0 0)
 | none => false)
end Go.Proofs.YtilimpjcdeeaiaaGreat.G


namespace Go.Proofs.YtilimpjcdeeaiaaGreat.G
open Go.RowKit Go.Proofs.YtilimpjcdeeaiaaGreatW.PrintWords Go.Proofs.YtilimpjcdeeaiaaGreatW.PrintLast Go.Proofs.YtilimpjcdeeaiaaGreatW.PrintMore
attribute [local go_sem] max2_int min2_int max_two min_two max_three min_three max_four min_four   -- for this text's walks alone
def spec_ScanOk.f (k : Nat) (a0_0 : Int) (a0_1 : Int) (a0_2 : Int) (a0_3 : Int) (l0_4 : List (S53)) (l1_0 : List Int) (a1_1 : Int) (a1_2 : Int) (a1_3 : Int) (a1_4 : Int) : Option (Bool) := (spec_FrameOk.f k a0_0 a0_1 a0_2 a0_3 l0_4).bind fun t193 => (if t193 = true then ((spec_l04Comps.f k a0_0 a0_1 a0_2 a0_3 l0_4 l1_0).bind fun t194 => (if t194 = true then ((spec_l12Bits.f l1_0 a1_1 a1_2 a1_3 a1_4).bind fun t195 => (some t195)) else (some false))) else (some false))
set_option maxHeartbeats 8000000 in
set_option maxRecDepth 100000 in
theorem spec_ScanOk.calls (k : Nat) (a0_0 : Int) (a0_1 : Int) (a0_2 : Int) (a0_3 : Int) (A0_4 : Option Addr) (c0_4 : Nat) (l0_4 : List (S53)) (A1_0 : Option Addr) (c1_0 : Nat) (l1_0 : List Int) (a1_1 : Int) (a1_2 : Int) (a1_3 : Int) (a1_4 : Int) (r : Bool) (w : World) (hr0_4 : Kd.C k53 w A0_4 l0_4.length l0_4) (hc0_4 : l0_4.length ≤ c0_4) (hr1_0 : Kd.C (Kd.int .i64) w A1_0 l1_0.length l1_0) (hc1_0 : l1_0.length ≤ c1_0) (h : spec_ScanOk.f k a0_0 a0_1 a0_2 a0_3 l0_4 l1_0 a1_1 a1_2 a1_3 a1_4 = some r) :
  Calls Tryz.prog 75 #[.agg #[.int .i64 a0_0, .int .i64 a0_1, .int .i64 a0_2, .int .i64 a0_3, .slice A0_4 l0_4.length c0_4], .agg #[.slice A1_0 l1_0.length c1_0, .int .i64 a1_1, .int .i64 a1_2, .int .i64 a1_3, .int .i64 a1_4]] w fun e w' => e = .returned (.bool r) ∧ Below w.heap.size w w' := by
 have hu37 := Tryz.underlying37
 have hu79 := Tryz.underlying79
 have HR0_4 := zA hr0_4
 have HC0_4 := zA hc0_4
 clear hr0_4 hc0_4
 have HR1_0 := zA hr1_0
 have HC1_0 := zA hc1_0
 clear hr1_0 hc1_0
 have HB := zA (Below.refl w.heap.size w)
 have H : ((spec_FrameOk.f k a0_0 a0_1 a0_2 a0_3 l0_4).bind fun t193 => (if t193 = true then ((spec_l04Comps.f k a0_0 a0_1 a0_2 a0_3 l0_4 l1_0).bind fun t194 => (if t194 = true then ((spec_l12Bits.f l1_0 a1_1 a1_2 a1_3 a1_4).bind fun t195 => (some t195)) else (some false))) else (some false))) = some r := h
 clear h
 replace H := Option.bind_eq_some_iff.mp H
 obtain ⟨t193, A30, H⟩ := H
 try dsimp only at H
 have A3 := zA A30
 clear A30
 by_cases c4 : t193 = true
 ·subst c4
  rw [if_pos rfl] at H
  replace H := Option.bind_eq_some_iff.mp H
  obtain ⟨t194, A50, H⟩ := H
  try dsimp only at H
  have A5 := zA A50
  clear A50
  by_cases c6 : t194 = true
  ·subst c6
   rw [if_pos rfl] at H
   replace H := Option.bind_eq_some_iff.mp H
   obtain ⟨t195, A70, H⟩ := H
   try dsimp only at H
   have A7 := zA A70
   clear A70
   obtain rfl := Option.some.inj H
   go_enter Tryz.func75, Tryz.ntmps75
   go_wp2_with (first | ((with_reducible refine gate_dst (N := 2) rfl ?_); refine nxX (N := 2) (cs := #[.int .i64 a0_0, .int .i64 a0_1, .int .i64 a0_2, .int .i64 a0_3, .slice A0_4 l0_4.length c0_4]) (t := 37) ?_; intro gb191 hg w8 hbox hb; have n0_ := nxH hb HB; have n1_ := zA (hbox); clear HB; have HB := n0_; have BK191 := n1_; clear n0_ n1_ ; clear hb hbox hg) | ((with_reducible refine gate_dst (N := 3) rfl ?_); refine nxX (N := 3) (cs := #[.slice A1_0 l1_0.length c1_0, .int .i64 a1_1, .int .i64 a1_2, .int .i64 a1_3, .int .i64 a1_4]) (t := 79) ?_; intro gb192 hg w9 hbox hb; have BK192 := zA (hbox); have NB191_192 := nxL BK191 hg; have NB192_191 := nxK BK191 hg; replace BK191 := nxB hb BK191; replace HB := nxH hb HB; clear hb hbox hg; have hnb10 := NB191_192.out; have hnc10 := NB192_191.out; obtain ⟨hcz11_0, hcz11_1, hcz11_2, hcz11_3, hcz11_4⟩ := cz5 BK191) | ((with_reducible refine gate_callee (f := 36) rfl ?_); refine goesL_ (some 6) rfl rfl Tryz.func36 (by kernel_rfl) rfl #[.agg #[.int .i64 a0_0, .int .i64 a0_1, .int .i64 a0_2, .int .i64 a0_3, .slice A0_4 l0_4.length c0_4]] rfl (by (try simp only [zU, zV, zW]); first | done | rfl | (simp only [zR, zQ]; rfl)) ?_; (with_reducible refine (spec_FrameOk.calls k a0_0 a0_1 a0_2 a0_3 _ _ l0_4 true _ ?side1 ?side2 A3.out).mono ?_); (case side1 => exact nxC HR0_4 HB); (case side2 => exact HC0_4.out); rintro e w12 ⟨rfl, hb⟩; refine ⟨_, rfl, ?_⟩; replace BK191 := nxB hb BK191; replace BK192 := nxB hb BK192; replace HB := nxH hb HB; (try clear hb); (try clear hb2); (try clear hk); (try clear hi); obtain ⟨hcz13_0, hcz13_1, hcz13_2, hcz13_3, hcz13_4⟩ := cz5 BK191; obtain ⟨hcz14_0, hcz14_1, hcz14_2, hcz14_3, hcz14_4⟩ := cz5 BK192) | (go_at_call 89; (with_reducible refine (spec_l04Comps.calls k a0_0 a0_1 a0_2 a0_3 _ _ l0_4 _ _ l1_0 true _ ?side1 ?side2 ?side3 ?side4 A5.out).mono ?_); (case side1 => exact nxC HR0_4 HB); (case side2 => exact HC0_4.out); (case side3 => exact nxC HR1_0 HB); (case side4 => exact HC1_0.out); rintro e w15 ⟨rfl, hb⟩; replace BK191 := nxB hb BK191; replace BK192 := nxB hb BK192; replace HB := nxH hb HB; (try clear hb); (try clear hb2); (try clear hk); (try clear hi); obtain ⟨hcz16_0, hcz16_1, hcz16_2, hcz16_3, hcz16_4⟩ := cz5 BK192) | (go_at_call 90; (with_reducible refine (spec_l12Bits.calls _ _ l1_0 a1_1 a1_2 a1_3 a1_4 t195 _ ?side1 ?side2 A7.out).mono ?_); (case side1 => exact nxC HR1_0 HB); (case side2 => exact HC1_0.out); rintro e w17 ⟨rfl, hb⟩; replace BK191 := nxB hb BK191; replace BK192 := nxB hb BK192; replace HB := nxH hb HB; (try clear hb); (try clear hb2); (try clear hk); (try clear hi)))
   go_ret
   exact ⟨rfl, nxD HB⟩
  ·replace c6 := Bool.eq_false_iff.mpr c6
   subst c6
   rw [if_neg (show ¬ (false = true) by decide)] at H
   obtain rfl := Option.some.inj H
   go_enter Tryz.func75, Tryz.ntmps75
   go_wp2_with (first | ((with_reducible refine gate_dst (N := 2) rfl ?_); refine nxX (N := 2) (cs := #[.int .i64 a0_0, .int .i64 a0_1, .int .i64 a0_2, .int .i64 a0_3, .slice A0_4 l0_4.length c0_4]) (t := 37) ?_; intro gb191 hg w18 hbox hb; have n0_ := nxH hb HB; have n1_ := zA (hbox); clear HB; have HB := n0_; have BK191 := n1_; clear n0_ n1_ ; clear hb hbox hg) | ((with_reducible refine gate_dst (N := 3) rfl ?_); refine nxX (N := 3) (cs := #[.slice A1_0 l1_0.length c1_0, .int .i64 a1_1, .int .i64 a1_2, .int .i64 a1_3, .int .i64 a1_4]) (t := 79) ?_; intro gb192 hg w19 hbox hb; have BK192 := zA (hbox); have NB191_192 := nxL BK191 hg; have NB192_191 := nxK BK191 hg; replace BK191 := nxB hb BK191; replace HB := nxH hb HB; clear hb hbox hg; have hnb20 := NB191_192.out; have hnc20 := NB192_191.out; obtain ⟨hcz21_0, hcz21_1, hcz21_2, hcz21_3, hcz21_4⟩ := cz5 BK191) | ((with_reducible refine gate_callee (f := 36) rfl ?_); refine goesL_ (some 6) rfl rfl Tryz.func36 (by kernel_rfl) rfl #[.agg #[.int .i64 a0_0, .int .i64 a0_1, .int .i64 a0_2, .int .i64 a0_3, .slice A0_4 l0_4.length c0_4]] rfl (by (try simp only [zU, zV, zW]); first | done | rfl | (simp only [zR, zQ]; rfl)) ?_; (with_reducible refine (spec_FrameOk.calls k a0_0 a0_1 a0_2 a0_3 _ _ l0_4 true _ ?side1 ?side2 A3.out).mono ?_); (case side1 => exact nxC HR0_4 HB); (case side2 => exact HC0_4.out); rintro e w22 ⟨rfl, hb⟩; refine ⟨_, rfl, ?_⟩; replace BK191 := nxB hb BK191; replace BK192 := nxB hb BK192; replace HB := nxH hb HB; (try clear hb); (try clear hb2); (try clear hk); (try clear hi); obtain ⟨hcz23_0, hcz23_1, hcz23_2, hcz23_3, hcz23_4⟩ := cz5 BK191; obtain ⟨hcz24_0, hcz24_1, hcz24_2, hcz24_3, hcz24_4⟩ := cz5 BK192) | (go_at_call 89; (with_reducible refine (spec_l04Comps.calls k a0_0 a0_1 a0_2 a0_3 _ _ l0_4 _ _ l1_0 false _ ?side1 ?side2 ?side3 ?side4 A5.out).mono ?_); (case side1 => exact nxC HR0_4 HB); (case side2 => exact HC0_4.out); (case side3 => exact nxC HR1_0 HB); (case side4 => exact HC1_0.out); rintro e w25 ⟨rfl, hb⟩; replace BK191 := nxB hb BK191; replace BK192 := nxB hb BK192; replace HB := nxH hb HB; (try clear hb); (try clear hb2); (try clear hk); (try clear hi)))
   go_ret
   exact ⟨rfl, nxD HB⟩
 ·replace c4 := Bool.eq_false_iff.mpr c4
  subst c4
  rw [if_neg (show ¬ (false = true) by decide)] at H
  obtain rfl := Option.some.inj H
  go_enter Tryz.func75, Tryz.ntmps75
  go_wp2_with (first | ((with_reducible refine gate_dst (N := 2) rfl ?_); refine nxX (N := 2) (cs := #[.int .i64 a0_0, .int .i64 a0_1, .int .i64 a0_2, .int .i64 a0_3, .slice A0_4 l0_4.length c0_4]) (t := 37) ?_; intro gb191 hg w26 hbox hb; have n0_ := nxH hb HB; have n1_ := zA (hbox); clear HB; have HB := n0_; have BK191 := n1_; clear n0_ n1_ ; clear hb hbox hg) | ((with_reducible refine gate_dst (N := 3) rfl ?_); refine nxX (N := 3) (cs := #[.slice A1_0 l1_0.length c1_0, .int .i64 a1_1, .int .i64 a1_2, .int .i64 a1_3, .int .i64 a1_4]) (t := 79) ?_; intro gb192 hg w27 hbox hb; have BK192 := zA (hbox); have NB191_192 := nxL BK191 hg; have NB192_191 := nxK BK191 hg; replace BK191 := nxB hb BK191; replace HB := nxH hb HB; clear hb hbox hg; have hnb28 := NB191_192.out; have hnc28 := NB192_191.out; obtain ⟨hcz29_0, hcz29_1, hcz29_2, hcz29_3, hcz29_4⟩ := cz5 BK191) | ((with_reducible refine gate_callee (f := 36) rfl ?_); refine goesL_ (some 6) rfl rfl Tryz.func36 (by kernel_rfl) rfl #[.agg #[.int .i64 a0_0, .int .i64 a0_1, .int .i64 a0_2, .int .i64 a0_3, .slice A0_4 l0_4.length c0_4]] rfl (by (try simp only [zU, zV, zW]); first | done | rfl | (simp only [zR, zQ]; rfl)) ?_; (with_reducible refine (spec_FrameOk.calls k a0_0 a0_1 a0_2 a0_3 _ _ l0_4 false _ ?side1 ?side2 A3.out).mono ?_); (case side1 => exact nxC HR0_4 HB); (case side2 => exact HC0_4.out); rintro e w30 ⟨rfl, hb⟩; refine ⟨_, rfl, ?_⟩; replace BK191 := nxB hb BK191; replace BK192 := nxB hb BK192; replace HB := nxH hb HB; (try clear hb); (try clear hb2); (try clear hk); (try clear hi)))
  go_ret
  exact ⟨rfl, nxD HB⟩
theorem spec_l04Comps.l0_ev (p w h r : Int) (l : List SC) (hn : 1 ≤ l.length ∧ l.length ≤ 4) (c : List Int) (hl : c.length ≤ 2000000) : ∀ (d i : Nat), i + d = c.length → Ev (fun k => spec_l04Comps.l0 k c (i : Int) p w h r l) (cgo l.length c i d && decide (0 < c.length)) := by
 intro d
 induction d with
 | zero =>
  intro i hi
  refine Ev.step (fun _ => by rw [spec_l04Comps.l0]) (Ev.ng (by omega) (Ev.eq (Ev.now _) ?_))
  rw [cgo, Bool.true_and]
  congr 1
  rw [eq_iff_iff]; omega
 | succ d ih =>
  intro i hi
  have hlt : i < c.length := by omega
  refine Ev.step (fun _ => by rw [spec_l04Comps.l0]) (Ev.ip (by omega) (Ev.ip (by omega) ?_))
  refine Ev.bind (Ev.c (spec_l01Between.val _ _ _)) ?_
  rw [cgo, wrap_in ((l.length : Int) - 1) (by omega) (by omega)]
  by_cases ha : (decide (0 ≤ rd c i) && decide (rd c i ≤ (l.length : Int) - 1)) = true
  ·refine Ev.ip ha ?_
   rw [ha, Bool.true_and]
   by_cases h0 : i = 0
   ·refine Ev.ng (by omega) ?_
    rw [wrap_succ i (by omega), zT h0, Bool.true_or, Bool.true_and]
    exact ih (i + 1) (by omega)
   ·refine Ev.ip (by omega) ?_
    rw [wrap_in ((i : Int) - 1) (by omega) (by omega), decide_eq_false h0, Bool.false_or]
    refine Ev.ip (by omega) (Ev.ip (by omega) ?_)
    by_cases hr : rd c ((i : Int) - 1) < rd c i
    ·refine Ev.ng (by omega) ?_
     rw [wrap_succ i (by omega), zT hr, Bool.true_and]
     exact ih (i + 1) (by omega)
    ·refine Ev.ip (by omega) (Ev.eq (Ev.now _) ?_)
     rw [decide_eq_false hr, Bool.false_and, Bool.false_and]
  ·refine Ev.ng ha (Ev.eq (Ev.now _) ?_)
   rw [Bool.eq_false_iff.2 ha, Bool.false_and, Bool.false_and]
theorem spec_l12Bits.val (l : List Int) (fr te hi lo : Int) : spec_l12Bits.f l fr te hi lo = some (passM fr te hi lo) := by
 unfold spec_l12Bits.f passM
 simp only [spec_l01Between.val, zS]
 by_cases h2 : te ≤ 63 <;> by_cases h3 : 0 ≤ fr <;> by_cases h4 : fr ≤ te <;> by_cases h5 : 0 ≤ lo <;> by_cases h6 : lo ≤ 13
 all_goals simp only [h2, h3, h4, h5, h6, decide_true, decide_false, Bool.and_true, Bool.true_and, Bool.false_and, Bool.and_false, if_true, if_false, Bool.false_eq_true]
 all_goals first | rfl | (exfalso; omega) | skip
 all_goals
  rw [wrap_in (lo + 1) (by omega) (by omega)]
  by_cases h7 : hi = 0
  ·rw [if_pos h7, zT h7, Bool.true_or]
  ·rw [if_neg h7, decide_eq_false h7, Bool.false_or]; rfl
theorem spec_ScanOk.ev (p w h r : Int) (l : List SC) (c : List Int) (fr te hi lo : Int) (hF : frameOkM p w h r l = true) (hl : c.length ≤ 2000000) : Ev (fun k => spec_ScanOk.f k p w h r l c fr te hi lo) (scanOkM l.length ⟨c, fr, te, hi, lo⟩) := by
 unfold spec_ScanOk.f
 refine Ev.bind (spec_FrameOk.ev p w h r l) (Ev.ip hF (Ev.bind (spec_l04Comps.l0_ev p w h r l (frameOk_len hF) c hl c.length 0 (Nat.zero_add _)) ?_))
 show Ev _ (compsOkM l.length c && passM fr te hi lo)
 by_cases h : (cgo l.length c 0 c.length && decide (0 < c.length)) = true
 ·rw [show compsOkM l.length c = true from h, Bool.true_and]
  exact Ev.ip h (Ev.bind (Ev.c (spec_l12Bits.val c fr te hi lo)) (Ev.now _))
 ·rw [show compsOkM l.length c = false from Bool.eq_false_iff.2 h, Bool.false_and]
  exact Ev.ng h (Ev.now _)
end Go.Proofs.YtilimpjcdeeaiaaGreat.G


namespace Go.Proofs.YtilimpjcdeeaiaaGreat.G
open Go.RowKit Go.Proofs.YtilimpjcdeeaiaaGreatW.PrintWords Go.Proofs.YtilimpjcdeeaiaaGreatW.PrintLast Go.Proofs.YtilimpjcdeeaiaaGreatW.PrintMore
attribute [local go_sem] max2_int min2_int max_two min_two max_three min_three max_four min_four   -- for this text's walks alone
mutual
def spec_l12Left.j0 : Nat → List (S79) → List (List Int) → Bool → Int → Int → Int → Int → List (S53) → Option ((List (List Int)) × Bool)
 | 0, _, _, _, _, _, _, _, _ => none
 | k + 1, x1, x6, x23, x197000, x197001, x197002, x197003, x197004 => if x23 = true then (some (x6, false)) else (spec_l12Left.l0 k x1 x6 0 x197000 x197001 x197002 x197003 x197004)
def spec_l12Left.l0 : Nat → List (S79) → List (List Int) → Int → Int → Int → Int → Int → List (S53) → Option ((List (List Int)) × Bool)
 | 0, _, _, _, _, _, _, _, _ => none
 | k + 1, x1, x6, x7, x197000, x197001, x197002, x197003, x197004 => if x7 < (x197004.length : Int) then (spec_l12Left.l1 k x1 x6 x7 (([] : List Int)) 0 x197000 x197001 x197002 x197003 x197004) else (spec_l12Left.l2 k x1 x6 0 x197000 x197001 x197002 x197003 x197004)
def spec_l12Left.l1 : Nat → List (S79) → List (List Int) → Int → List Int → Int → Int → Int → Int → Int → List (S53) → Option ((List (List Int)) × Bool)
 | 0, _, _, _, _, _, _, _, _, _, _ => none
 | k + 1, x1, x6, x7, x8, x9, x197000, x197001, x197002, x197003, x197004 => if x9 < 64 then (if x8.length < 17592186044416 then (spec_l12Left.l1 k x1 x6 x7 (x8 ++ [(-1)]) (wrap64 (x9 + 1)) x197000 x197001 x197002 x197003 x197004) else (none)) else (if x6.length < 5864062014805 then (spec_l12Left.l0 k x1 (x6 ++ [x8]) (wrap64 (x7 + 1)) x197000 x197001 x197002 x197003 x197004) else (none))
def spec_l12Left.l2 : Nat → List (S79) → List (List Int) → Int → Int → Int → Int → Int → List (S53) → Option ((List (List Int)) × Bool)
 | 0, _, _, _, _, _, _, _, _ => none
 | k + 1, x1, x6, x10, x197000, x197001, x197002, x197003, x197004 => if x10 < (x1.length : Int) then (if 0 ≤ x10 then ((spec_ScanOk.f k x197000 x197001 x197002 x197003 x197004 ((rd_T79 x1 x10).f0) ((rd_T79 x1 x10).f1) ((rd_T79 x1 x10).f2) ((rd_T79 x1 x10).f3) ((rd_T79 x1 x10).f4)).bind fun t212 => (if t212 = true then (if ((rd_T79 x1 x10).f3) = 0 then (spec_l12Left.j4 k x1 x6 x10 (-1) x197000 x197001 x197002 x197003 x197004 ((rd_T79 x1 x10).f0) ((rd_T79 x1 x10).f1) ((rd_T79 x1 x10).f2) ((rd_T79 x1 x10).f3) ((rd_T79 x1 x10).f4)) else (spec_l12Left.j4 k x1 x6 x10 ((rd_T79 x1 x10).f3) x197000 x197001 x197002 x197003 x197004 ((rd_T79 x1 x10).f0) ((rd_T79 x1 x10).f1) ((rd_T79 x1 x10).f2) ((rd_T79 x1 x10).f3) ((rd_T79 x1 x10).f4))) else (some ((([] : List (List Int))), false)))) else (none)) else (some (x6, true))
def spec_l12Left.j4 : Nat → List (S79) → List (List Int) → Int → Int → Int → Int → Int → Int → List (S53) → List Int → Int → Int → Int → Int → Option ((List (List Int)) × Bool)
 | 0, _, _, _, _, _, _, _, _, _, _, _, _, _, _ => none
 | k + 1, x1, x6, x10, x12, x197000, x197001, x197002, x197003, x197004, x212000, x212001, x212002, x212003, x212004 => spec_l12Left.l3 k x1 x6 x10 x12 0 x197000 x197001 x197002 x197003 x197004 x212000 x212001 x212002 x212003 x212004
def spec_l12Left.l3 : Nat → List (S79) → List (List Int) → Int → Int → Int → Int → Int → Int → Int → List (S53) → List Int → Int → Int → Int → Int → Option ((List (List Int)) × Bool)
 | 0, _, _, _, _, _, _, _, _, _, _, _, _, _, _, _ => none
 | k + 1, x1, x6, x10, x12, x13, x197000, x197001, x197002, x197003, x197004, x212000, x212001, x212002, x212003, x212004 => if x13 < (x212000.length : Int) then (spec_l12Left.l4 k x1 x6 x10 x12 x13 x212001 x197000 x197001 x197002 x197003 x197004 x212000 x212001 x212002 x212003 x212004) else (spec_l12Left.l2 k x1 x6 (wrap64 (x10 + 1)) x197000 x197001 x197002 x197003 x197004)
def spec_l12Left.l4 : Nat → List (S79) → List (List Int) → Int → Int → Int → Int → Int → Int → Int → Int → List (S53) → List Int → Int → Int → Int → Int → Option ((List (List Int)) × Bool)
 | 0, _, _, _, _, _, _, _, _, _, _, _, _, _, _, _, _ => none
 | k + 1, x1, x6, x10, x12, x13, x14, x197000, x197001, x197002, x197003, x197004, x212000, x212001, x212002, x212003, x212004 => if x14 ≤ x212002 then (if 0 ≤ x13 then (if x13 < (x212000.length : Int) then (if 0 ≤ (rd x212000 x13) then (if (rd x212000 x13) < (x6.length : Int) then (if 0 ≤ x14 then (if x14 < ((rd_L2 x6 (rd x212000 x13)).length : Int) then (if (rd (rd_L2 x6 (rd x212000 x13)) x14) = x12 then (spec_l12Left.l4 k x1 (x6.set ((rd x212000 x13) : Int).toNat ((rd_L2 x6 (rd x212000 x13)).set (x14 : Int).toNat x212004)) x10 x12 x13 (wrap64 (x14 + 1)) x197000 x197001 x197002 x197003 x197004 x212000 x212001 x212002 x212003 x212004) else (some ((([] : List (List Int))), false))) else (none)) else (none)) else (none)) else (none)) else (none)) else (none)) else (spec_l12Left.l3 k x1 x6 x10 x12 (wrap64 (x13 + 1)) x197000 x197001 x197002 x197003 x197004 x212000 x212001 x212002 x212003 x212004)
end
def spec_l12Left.f (k : Nat) (a0_0 : Int) (a0_1 : Int) (a0_2 : Int) (a0_3 : Int) (l0_4 : List (S53)) (l1 : List (S79)) : Option ((List (List Int)) × Bool) := (some (([] : List (List Int)) : List (List Int))).bind fun y197 => ((spec_FrameOk.f k a0_0 a0_1 a0_2 a0_3 l0_4).bind fun t200 => (if t200 = true then (spec_l12Left.j0 k l1 y197 (decide ((l1.length : Int) > 40)) a0_0 a0_1 a0_2 a0_3 l0_4) else (spec_l12Left.j0 k l1 y197 true a0_0 a0_1 a0_2 a0_3 l0_4)))
def spec_l12Left.T30 : Bool × List (List Nat × List Nat) := (true, [([], []), ([], []), ([1], [1]), ([], []), ([2, 3], [2, 3]), ([4], [4]), ([0, 5], [0, 5]), ([6], [6]), ([], []), ([], []), ([9], [9]), ([7, 8, 0, 1, 2, 3, 4, 5, 6, 7, 8, 9, 10], [7, 8]), ([11, 10, 0, 1, 2, 3, 4, 5, 6, 7, 8, 9, 10], [10, 11])])
def spec_l12Left.B30 : List Nat := [0, 0, 2, 0, 14, 30, 63, 127, 0, 0, 512, 2047, 4095]
theorem spec_l12Left.tab30 : rtab .any (opsOf Tryz.f61 30) = spec_l12Left.T30 := by kernel_rfl
theorem spec_l12Left.bits30 : waitsOk spec_l12Left.T30.2 spec_l12Left.B30 = true := by kernel_rfl
set_option maxHeartbeats 8000000 in
set_option maxRecDepth 100000 in
theorem spec_l12Left.calls (k : Nat) (a0_0 : Int) (a0_1 : Int) (a0_2 : Int) (a0_3 : Int) (A0_4 : Option Addr) (c0_4 : Nat) (l0_4 : List (S53)) (A1 : Option Addr) (c1 : Nat) (l1 : List (S79)) (r1 : List (List Int)) (r2 : Bool) (w : World) (hr0_4 : Kd.C k53 w A0_4 l0_4.length l0_4) (hc0_4 : l0_4.length ≤ c0_4) (hr1 : Kd.C k79 w A1 l1.length l1) (hc1 : l1.length ≤ c1) (h : spec_l12Left.f k a0_0 a0_1 a0_2 a0_3 l0_4 l1 = some (r1, r2)) :
  Calls Tryz.prog 61 #[.agg #[.int .i64 a0_0, .int .i64 a0_1, .int .i64 a0_2, .int .i64 a0_3, .slice A0_4 l0_4.length c0_4], .slice A1 l1.length c1] w fun e w' => ∃ v0_ : Value, e = .returned (.tuple #[v0_, .bool r2]) ∧ Kd.S (Kd.slice 3 (Kd.int .i64)) 66 w' w.heap.size (fun _ => True) v0_ r1 ∧ Below w.heap.size w w' := by
 have hu37 := Tryz.underlying37
 have hu79 := Tryz.underlying79
 have HR0_4 := zA hr0_4
 have HC0_4 := zA hc0_4
 clear hr0_4 hc0_4
 have HR1 := zA hr1
 have HC1 := zA hc1
 clear hr1 hc1
 have HB := zA (Below.refl w.heap.size w)
 have H : ((some (([] : List (List Int)) : List (List Int))).bind fun y197 => ((spec_FrameOk.f k a0_0 a0_1 a0_2 a0_3 l0_4).bind fun t200 => (if t200 = true then (spec_l12Left.j0 k l1 y197 (decide ((l1.length : Int) > 40)) a0_0 a0_1 a0_2 a0_3 l0_4) else (spec_l12Left.j0 k l1 y197 true a0_0 a0_1 a0_2 a0_3 l0_4)))) = some (r1, r2) := h
 clear h
 obtain ⟨y197, hy197⟩ : ∃ y_ : List (List Int), y_ = (([] : List (List Int))) := ⟨_, rfl⟩
 replace H : ((spec_FrameOk.f k a0_0 a0_1 a0_2 a0_3 l0_4).bind fun t200 => (if t200 = true then (spec_l12Left.j0 k l1 y197 (decide ((l1.length : Int) > 40)) a0_0 a0_1 a0_2 a0_3 l0_4) else (spec_l12Left.j0 k l1 y197 true a0_0 a0_1 a0_2 a0_3 l0_4))) = some (r1, r2) := by first | (rw [hy197]; with_reducible exact H) | (have H2_ := (zS _ _).symm.trans H; rw [hy197]; with_reducible exact H2_) | (have H2_ := (zS _ _).symm.trans H; with_reducible exact H2_) | with_reducible exact H | (rw [hy197]; exact H) | exact H
 have Ny197 := zA hy197
 clear hy197
 have HC3 := zA H
 clear H
 go_enter Tryz.func61, Tryz.ntmps61
 go_upto_region 2 with (first | ((with_reducible refine gate_dst (N := 2) rfl ?_); refine nxX (N := 2) (cs := #[.int .i64 a0_0, .int .i64 a0_1, .int .i64 a0_2, .int .i64 a0_3, .slice A0_4 l0_4.length c0_4]) (t := 37) ?_; intro gb196 hg w4 hbox hb; have BK196 := zA (hbox); have GE196 := nxG HB hg; replace HB := nxH hb HB; clear hb hbox hg) | ((with_reducible refine gate_dst (N := 15) rfl ?_); refine Kd.S_lit (Kd.slice 3 (Kd.int .i64)) _ 66 ?hg (N := 15) ?hd (xs := ([] : List (List Int))) (inner := []) (ok := fun _ => True) (okp := fun _ => True) ?hr ?hp (fun _ hk => hk) trivial (Below.refl _ _) (Nat.le_refl _) (by simp) ?_; (case hd => rfl); (case hg => rfl); (case hr => first | (go_simp; done) | (go_simp; rfl)); (case hp => exact (Reps.none _ _)); intro v198 w5 ho6 hb hg_ hnew_; clear hg_ hnew_; (first | rw [← Ny197.out] at ho6 | (simp only [Int.reduceToNat] at ho6; rw [← Ny197.out] at ho6)); have n0_ := zA (Kd.S_lower ho6 (zL (by repeat (first | (with_reducible first | exact HB.out | apply zC | apply zB | apply zF | refine zE ?_ GE196.out) | exact HB.out)))); have n1_ := nxB hb BK196; have n2_ := nxH hb HB; clear BK196; clear HB; have HO199 := n0_; have BK196 := n1_; have HB := n2_; clear n0_ n1_ n2_; clear hb ho6))
 (try simp only [Act.put, List.setIfInBounds_toArray, List.set_cons_zero, List.set_cons_succ])
 go_cut [23] (fun v23 wc => ∃ (kq : Nat) (x23_2 : Bool), v23 = .bool x23_2 ∧ Aside0 (spec_l12Left.j0 kq l1 y197 x23_2 a0_0 a0_1 a0_2 a0_3 l0_4 = some (r1, r2)) ∧ Aside0 (kq ≤ k) ∧ Aside0 (Kd.S (Kd.slice 3 (Kd.int .i64)) 66 wc w.heap.size (fun _ => True) v198 y197) ∧ Aside0 (wc.heap[gb196]? = some (.cells #[.int .i64 a0_0, .int .i64 a0_1, .int .i64 a0_2, .int .i64 a0_3, (.slice A0_4 l0_4.length c0_4)] 37 (0, 0))) ∧ Aside0 (Below w.heap.size w wc))
 case first =>
  have H := HC3.out
  clear HC3
  replace H := Option.bind_eq_some_iff.mp H
  obtain ⟨t200, A70, H⟩ := H
  try dsimp only at H
  have A7 := zA A70
  clear A70
  by_cases c8 : t200 = true
  ·subst c8
   rw [if_pos rfl] at H
   have H' := zA H
   clear H
   obtain ⟨hcz9_0, hcz9_1, hcz9_2, hcz9_3, hcz9_4⟩ := cz5 BK196
   obtain ⟨hfz9_0, hfz9_1, hfz9_2, hfz9_3, hfz9_4⟩ := fz5 BK196
   go_wp2_with (first | ((with_reducible refine gate_callee (f := 36) rfl ?_); refine goesL_ (some 17) rfl rfl Tryz.func36 (by kernel_rfl) rfl #[.agg #[.int .i64 a0_0, .int .i64 a0_1, .int .i64 a0_2, .int .i64 a0_3, .slice A0_4 l0_4.length c0_4]] rfl (by (try simp only [zU, zV, zW]); first | done | rfl | (simp only [zR, zQ]; rfl)) ?_; (with_reducible refine (spec_FrameOk.calls k a0_0 a0_1 a0_2 a0_3 _ _ l0_4 true _ ?side1 ?side2 A7.out).mono ?_); (case side1 => exact nxC HR0_4 HB); (case side2 => exact HC0_4.out); rintro e w10 ⟨rfl, hb⟩; refine ⟨_, rfl, ?_⟩; replace HO199 := nxS hb HO199; replace BK196 := nxB hb BK196; replace HB := nxH hb HB; (try clear hb); (try clear hb2); (try clear hk); (try clear hi)))
   go_meet
   case rel => exact ⟨_, (decide ((l1.length : Int) > 40)), rfl, H', ⟨Nat.le_refl _⟩, ⟨nxU HO199⟩, ⟨BK196.out⟩, ⟨nxD HB⟩⟩
  ·replace c8 := Bool.eq_false_iff.mpr c8
   subst c8
   rw [if_neg (show ¬ (false = true) by decide)] at H
   have H' := zA H
   clear H
   obtain ⟨hcz11_0, hcz11_1, hcz11_2, hcz11_3, hcz11_4⟩ := cz5 BK196
   obtain ⟨hfz11_0, hfz11_1, hfz11_2, hfz11_3, hfz11_4⟩ := fz5 BK196
   go_wp2_with (first | ((with_reducible refine gate_callee (f := 36) rfl ?_); refine goesL_ (some 17) rfl rfl Tryz.func36 (by kernel_rfl) rfl #[.agg #[.int .i64 a0_0, .int .i64 a0_1, .int .i64 a0_2, .int .i64 a0_3, .slice A0_4 l0_4.length c0_4]] rfl (by (try simp only [zU, zV, zW]); first | done | rfl | (simp only [zR, zQ]; rfl)) ?_; (with_reducible refine (spec_FrameOk.calls k a0_0 a0_1 a0_2 a0_3 _ _ l0_4 false _ ?side1 ?side2 A7.out).mono ?_); (case side1 => exact nxC HR0_4 HB); (case side2 => exact HC0_4.out); rintro e w12 ⟨rfl, hb⟩; refine ⟨_, rfl, ?_⟩; replace HO199 := nxS hb HO199; replace BK196 := nxB hb BK196; replace HB := nxH hb HB; (try clear hb); (try clear hb2); (try clear hk); (try clear hi)))
   go_meet
   case rel => exact ⟨_, (true), rfl, H', ⟨Nat.le_refl _⟩, ⟨nxU HO199⟩, ⟨BK196.out⟩, ⟨nxD HB⟩⟩
 case rest =>
  clear HC3
  obtain ⟨kq, x23_2, rfl, HA, HJ2, HO_6, BK196, HB⟩ := hcut
  cases kq with
  | zero => exact absurd HA.out (by simp [spec_l12Left.j0])
  | succ kj2 =>
   have H := HA.out
   clear HA
   simp only [spec_l12Left.j0] at H
   by_cases c13 : x23_2 = true
   ·subst c13
    rw [if_pos rfl] at H
    simp only [Option.some.injEq, Prod.mk.injEq] at H
    obtain ⟨rfl, rfl⟩ := H
    go_wp2
    go_ret2
    exact ⟨_, by first | rfl | (simp [errW_none, errW_some] <;> rfl) | (simp [*, errW_none, errW_some] <;> rfl), by (with_reducible repeat (first | apply zY | apply zZ | apply yA)); exact HO_6.out, by repeat (first | (with_reducible first | exact HB.out | apply zC | apply zB | apply zF | refine zE ?_ GE196.out) | exact HB.out)⟩
   ·replace c13 := Bool.eq_false_iff.mpr c13
    subst c13
    rw [if_neg (show ¬ (false = true) by decide)] at H
    have H' := zA H
    clear H
    go_wp2
    go_loopg [6, 7] kj2 (fun kq v6 v7 w' => ∃ (x6_2 : List (List Int)) (x7_2 : Int), v7 = .int .i64 x7_2 ∧ Aside0 (spec_l12Left.l0 kq l1 x6_2 x7_2 a0_0 a0_1 a0_2 a0_3 l0_4 = some (r1, r2)) ∧ Aside0 (kq ≤ kj2) ∧ Aside0 (Kd.S (Kd.slice 3 (Kd.int .i64)) 66 w' w.heap.size (fun _ => True) v6 x6_2) ∧ Aside0 (w'.heap[gb196]? = some (.cells #[.int .i64 a0_0, .int .i64 a0_1, .int .i64 a0_2, .int .i64 a0_3, (.slice A0_4 l0_4.length c0_4)] 37 (0, 0))) ∧ Aside0 (Below w.heap.size w w'))
    case atStart => exact ⟨(y197), (0), rfl, H', ⟨Nat.le_refl _⟩, ⟨nxU HO_6⟩, ⟨BK196.out⟩, ⟨nxD HB⟩⟩
    case round =>
     clear H'
     obtain ⟨x6_2, x7_2, rfl, HA, HK2, HO_6, BK196, HB⟩ := hrel
     cases gk with
     | zero => exact absurd HA.out (by simp [spec_l12Left.l0])
     | succ k2 =>
      have H := HA.out
      clear HA
      simp only [spec_l12Left.l0] at H
      by_cases c14 : x7_2 < (l0_4.length : Int)
      ·rw [if_pos c14] at H
       have c14b0 := zT c14
       clear c14
       obtain ⟨y201, hy201⟩ : ∃ y_ : List Int, y_ = (([] : List Int)) := ⟨_, rfl⟩
       replace H : (spec_l12Left.l1 k2 l1 x6_2 x7_2 y201 0 a0_0 a0_1 a0_2 a0_3 l0_4) = some (r1, r2) := by first | (rw [hy201]; with_reducible exact H) | (have H2_ := (zS _ _).symm.trans H; rw [hy201]; with_reducible exact H2_) | (have H2_ := (zS _ _).symm.trans H; with_reducible exact H2_) | with_reducible exact H | (rw [hy201]; exact H) | exact H
       have Ny201 := zA hy201
       clear hy201
       have H' := zA H
       clear H
       obtain ⟨hcz15_0, hcz15_1, hcz15_2, hcz15_3, hcz15_4⟩ := cz5 BK196
       obtain ⟨hfz15_0, hfz15_1, hfz15_2, hfz15_3, hfz15_4⟩ := fz5 BK196
       go_wp2_with (first | ((with_reducible refine gate_dst (N := 32) rfl ?_); refine Kd.R_lit (Kd.int .i64) _ 3 ?hg (N := 32) ?hd (xs := ([] : List Int)) (inner := []) (ok := fun _ => True) (okp := fun _ => True) ?hr ?hp (fun _ hk => hk) trivial (Below.refl _ _) (Nat.le_refl _) (by simp) ?_; (case hd => rfl); (case hg => rfl); (case hr => first | (go_simp; done) | (go_simp; rfl)); (case hp => exact (Reps.none _ _)); intro v202 w16 ho17 hb hg_ hnew_; clear hg_ hnew_; (first | rw [← Ny201.out] at ho17 | (simp only [Int.reduceToNat] at ho17; rw [← Ny201.out] at ho17)); have n0_ := nxF hb HO_6 (Kd.R_base ho17); have n1_ := zA (Kd.R_lower ho17 (zL (by repeat (first | (with_reducible first | exact HB.out | apply zC | apply zB | apply zF | refine zE ?_ GE196.out) | exact HB.out)))); have n2_ := nxB hb BK196; have n3_ := nxH hb HB; clear HO_6; clear BK196; clear HB; have HO_6 := n0_; have HO203 := n1_; have BK196 := n2_; have HB := n3_; clear n0_ n1_ n2_ n3_; clear hb ho17))
       go_loopg [8, 9] k2 (fun kq v8 v9 w' => ∃ (x8_3 : List Int) (x9_3 : Int), v9 = .int .i64 x9_3 ∧ Aside0 (spec_l12Left.l1 kq l1 x6_2 x7_2 x8_3 x9_3 a0_0 a0_1 a0_2 a0_3 l0_4 = some (r1, r2)) ∧ Aside0 (kq ≤ k2) ∧ Aside0 (Kd.S (Kd.slice 3 (Kd.int .i64)) 66 w' w.heap.size (fun k_ => some k_ ≠ (v8 : Value).ownBlock) u6 x6_2) ∧ Aside0 (Kd.R (Kd.int .i64) 3 w' w.heap.size (fun _ => True) v8 x8_3) ∧ Aside0 (w'.heap[gb196]? = some (.cells #[.int .i64 a0_0, .int .i64 a0_1, .int .i64 a0_2, .int .i64 a0_3, (.slice A0_4 l0_4.length c0_4)] 37 (0, 0))) ∧ Aside0 (Below w.heap.size w w'))
       case atStart => exact ⟨(y201), (0), rfl, H', ⟨Nat.le_refl _⟩, ⟨by (with_reducible repeat (first | apply zY | apply zZ | apply yA)); exact yB HO_6.out (fun _ hk => hk.2)⟩, ⟨nxT HO203⟩, ⟨BK196.out⟩, ⟨nxD HB⟩⟩
       case round =>
        clear H'
        obtain ⟨x8_3, x9_3, rfl, HA, HK3, HO_6, HO_8, BK196, HB⟩ := hrel
        cases gk with
        | zero => exact absurd HA.out (by simp [spec_l12Left.l1])
        | succ k3 =>
         have H := HA.out
         clear HA
         simp only [spec_l12Left.l1] at H
         by_cases c18 : x9_3 < 64
         ·rw [if_pos c18] at H
          have c18b0 := zT c18
          clear c18
          by_cases c19 : x8_3.length < 17592186044416
          ·rw [if_pos c19] at H
           have LMc19 := zA c19
           clear c19
           obtain ⟨y204, hy204⟩ : ∃ y_ : List Int, y_ = (x8_3 ++ [(-1)]) := ⟨_, rfl⟩
           replace H : (spec_l12Left.l1 k3 l1 x6_2 x7_2 y204 (wrap64 (x9_3 + 1)) a0_0 a0_1 a0_2 a0_3 l0_4) = some (r1, r2) := by first | (rw [hy204]; with_reducible exact H) | (have H2_ := (zS _ _).symm.trans H; rw [hy204]; with_reducible exact H2_) | (have H2_ := (zS _ _).symm.trans H; with_reducible exact H2_) | with_reducible exact H | (rw [hy204]; exact H) | exact H
           have Ny204 := zA hy204
           clear hy204
           have H' := zA H
           clear H
           go_wp2_with (first | ((with_reducible refine gate_builtin (b := .append) (xs := #[.tmp 37, .tmp 38]) rfl ?_); at_builtin; refine Kd.R_append (Kd.int .i64) (w0 := w) w.heap.size rfl (.tmp 37) (.tmp 38) 66 3 (.int .i64 0) 8 rfl Tryz.underlying66 info3 rfl (by decide) (by omega) u8 x8_3 (-1) [.int .i64 (-1)] (fun _ => True) (fun _ => False) rfl rfl ?aP (fun _ hk => hk.elim) ?aF ?aO ?aB ?aS ?aL ?_; (case aP => exact rfl); (case aB => exact (by repeat (first | (with_reducible first | exact HB.out | apply zC | apply zB | apply zF | refine zE ?_ GE196.out) | exact HB.out))); (case aF => exact (fun _ _ => trivial)); (case aO => exact (by (with_reducible repeat (first | apply zN | apply zM | apply zO)); exact HO_8.out)); (case aS => exact (zL (by repeat (first | (with_reducible first | exact HB.out | apply zC | apply zB | apply zF | refine zE ?_ GE196.out) | exact HB.out)))); (case aL => have := LMc19.out; omega); intro v205 w20 ho hb hg hat; rw [← Ny204.out] at ho; have n0_ := zA (Kd.S_after (ok := (fun _ => True)) (by (with_reducible repeat (first | apply zY | apply zZ | apply yA)); exact yB HO_6.out (fun _ hk => ⟨trivial, hk⟩)) hg hat); have n1_ := zA (blk_grown (g := gb196) (o := .cells #[.int .i64 a0_0, .int .i64 a0_1, .int .i64 a0_2, .int .i64 a0_3, .slice A0_4 l0_4.length c0_4] 37 (0, 0)) (by (with_reducible repeat (first | refine zG ?_ _ | refine zH ?_ | refine zD ?_ _)); exact BK196.out) hg (Kd.R_ne HO_8.out BK196.out (by decide))); have n2_ := zA (hb); have n3_ := zA (ho); clear HO_6; clear BK196; clear HB; clear HO_8; have HO_6 := n0_; have BK196 := n1_; have HB := n2_; have HO206 := n3_; clear n0_ n1_ n2_ n3_; clear ho hb hg hat))
           go_roundg k3
           case measure => have := HJ2.out; have := HK2.out; have := HK3.out; omega
           case rel => exact ⟨(y204), (wrap64 (x9_3 + 1)), rfl, H', ⟨by have := HJ2.out; have := HK2.out; have := HK3.out; omega⟩, ⟨by (with_reducible repeat (first | apply zY | apply zZ | apply yA)); exact yB HO_6.out (fun _ hk => hk.2)⟩, ⟨nxT HO206⟩, ⟨BK196.out⟩, ⟨nxD HB⟩⟩
          ·rw [if_neg c19] at H
           exact absurd H (by simp)
         ·rw [if_neg c18] at H
          have c18b0 := decide_eq_false c18
          clear c18
          by_cases c21 : x6_2.length < 5864062014805
          ·rw [if_pos c21] at H
           have LMc21 := zA c21
           clear c21
           obtain ⟨y207, hy207⟩ : ∃ y_ : List (List Int), y_ = (x6_2 ++ [x8_3]) := ⟨_, rfl⟩
           replace H : (spec_l12Left.l0 k3 l1 y207 (wrap64 (x7_2 + 1)) a0_0 a0_1 a0_2 a0_3 l0_4) = some (r1, r2) := by first | (rw [hy207]; with_reducible exact H) | (have H2_ := (zS _ _).symm.trans H; rw [hy207]; with_reducible exact H2_) | (have H2_ := (zS _ _).symm.trans H; with_reducible exact H2_) | with_reducible exact H | (rw [hy207]; exact H) | exact H
           have Ny207 := zA hy207
           clear hy207
           have H' := zA H
           clear H
           obtain ⟨Ao23, co23, eo23⟩ := Kd.R_slice HO_8.out
           subst eo23
           go_wp2_with (first | ((with_reducible refine gate_builtin (b := .append) (xs := #[.tmp 40, .tmp 42]) rfl ?_); at_builtin; refine Kd.S_append (Kd.slice 3 (Kd.int .i64)) (w0 := w) w.heap.size rfl (.tmp 40) (.tmp 42) 25 66 (.slice none 0 0) 24 rfl Tryz.underlying25 info66 rfl (by decide) (by omega) u6 x6_2 x8_3 [.slice Ao23 x8_3.length co23] (fun _ => True) (fun k_ => some k_ = (.slice Ao23 x8_3.length co23 : Value).ownBlock) rfl rfl ?aP (fun k_ hk_ => ((zP (ok' := fun k_ => ((fun _ => True)) k_ ∧ some k_ ≠ (u6 : Value).ownBlock) (Kd.R_apart' (HO_8.out) (Kd.S_typed HO_6.out) (by decide)) (fun k_ hk => ⟨trivial, hk.2⟩))).1 k_ hk_.symm) ?aF ?aO ?aB ?aS ?aL ?_; (case aP => exact Kd.M_row (zP (Kd.R_tight rfl (zP (ok' := fun k_ => ((fun _ => True)) k_ ∧ some k_ ≠ (u6 : Value).ownBlock) (Kd.R_apart' (HO_8.out) (Kd.S_typed HO_6.out) (by decide)) (fun k_ hk => ⟨trivial, hk.2⟩))) (fun _ h_ => h_))); (case aB => exact (by repeat (first | (with_reducible first | exact HB.out | apply zC | apply zB | apply zF | refine zE ?_ GE196.out) | exact HB.out))); (case aF => exact (fun _ _ => trivial)); (case aO => exact (by (with_reducible repeat (first | apply zY | apply zZ | apply yA)); exact yB HO_6.out (fun k_ hk => ⟨trivial, fun e_ => hk e_⟩))); (case aS => exact (zL (by repeat (first | (with_reducible first | exact HB.out | apply zC | apply zB | apply zF | refine zE ?_ GE196.out) | exact HB.out)))); (case aL => have := LMc21.out; omega); intro v208 w22 ho hb hg hat; rw [← Ny207.out] at ho; have n0_ := zA (blk_grown (g := gb196) (o := .cells #[.int .i64 a0_0, .int .i64 a0_1, .int .i64 a0_2, .int .i64 a0_3, .slice A0_4 l0_4.length c0_4] 37 (0, 0)) (by (with_reducible repeat (first | refine zG ?_ _ | refine zH ?_ | refine zD ?_ _)); exact BK196.out) hg (Kd.S_ne HO_6.out BK196.out (by decide))); have n1_ := zA (hb); have n2_ := zA (ho); clear BK196; clear HB; clear HO_6; clear HO_8; have BK196 := n0_; have HB := n1_; have HO209 := n2_; clear n0_ n1_ n2_; clear ho hb hg hat))
           go_roundg k3
           case measure => have := HJ2.out; have := HK2.out; have := HK3.out; omega
           case rel => exact ⟨(y207), (wrap64 (x7_2 + 1)), rfl, H', ⟨by have := HJ2.out; have := HK2.out; have := HK3.out; omega⟩, ⟨nxU HO209⟩, ⟨BK196.out⟩, ⟨nxD HB⟩⟩
          ·rw [if_neg c21] at H
           exact absurd H (by simp)
      ·rw [if_neg c14] at H
       have c14b0 := decide_eq_false c14
       clear c14
       have H' := zA H
       clear H
       obtain ⟨hcz24_0, hcz24_1, hcz24_2, hcz24_3, hcz24_4⟩ := cz5 BK196
       obtain ⟨hfz24_0, hfz24_1, hfz24_2, hfz24_3, hfz24_4⟩ := fz5 BK196
       go_wp2
       go_loopg [10] k2 (fun kq v10 w' => ∃ (x6_3 : List (List Int)) (x10_3 : Int), v10 = .int .i64 x10_3 ∧ Aside0 (spec_l12Left.l2 kq l1 x6_3 x10_3 a0_0 a0_1 a0_2 a0_3 l0_4 = some (r1, r2)) ∧ Aside0 (kq ≤ k2) ∧ Aside0 (Kd.S (Kd.slice 3 (Kd.int .i64)) 66 w' w.heap.size (fun _ => True) u6 x6_3) ∧ Aside0 (w'.heap[gb196]? = some (.cells #[.int .i64 a0_0, .int .i64 a0_1, .int .i64 a0_2, .int .i64 a0_3, (.slice A0_4 l0_4.length c0_4)] 37 (0, 0))) ∧ Aside0 (Below w.heap.size w w'))
       case atStart => exact ⟨(x6_2), (0), rfl, H', ⟨Nat.le_refl _⟩, ⟨nxU HO_6⟩, ⟨BK196.out⟩, ⟨nxD HB⟩⟩
       case round =>
        clear H'
        obtain ⟨x6_3, x10_3, rfl, HA, HK3, HO_6, BK196, HB⟩ := hrel
        cases gk with
        | zero => exact absurd HA.out (by simp [spec_l12Left.l2])
        | succ k3 =>
         have H := HA.out
         clear HA
         simp only [spec_l12Left.l2] at H
         by_cases c25 : x10_3 < (l1.length : Int)
         ·rw [if_pos c25] at H
          have c25b0 := zT c25
          clear c25
          by_cases c26 : 0 ≤ x10_3
          ·rw [if_pos c26] at H
           have c26b0 := zT c26
           clear c26
           replace H := Option.bind_eq_some_iff.mp H
           obtain ⟨t212, A270, H⟩ := H
           try dsimp only at H
           have A27 := zA A270
           clear A270
           have HF28 := zA H
           clear H
           have p210 : 0 ≤ (x10_3 : Int) := zI (by first | (with_reducible assumption) | assumption)
           have q210 : x10_3 < (l1.length : Int) := zI (by first | (with_reducible assumption) | assumption)
           obtain ⟨ad210, A210_0, c210_0, e210, hx210_0, hx210_1, hx210_2, hx210_3, hx210_4, hl210_0, hi210_0⟩ := at_T79 HR1.out x10_3 p210 q210
           cases e210
           replace hx210_0 := (HB.out.cell (World.block_lt_of_cell? w _ hx210_0)).trans hx210_0
           replace hx210_1 := (HB.out.cell (World.block_lt_of_cell? w _ hx210_1)).trans hx210_1
           replace hx210_2 := (HB.out.cell (World.block_lt_of_cell? w _ hx210_2)).trans hx210_2
           replace hx210_3 := (HB.out.cell (World.block_lt_of_cell? w _ hx210_3)).trans hx210_3
           replace hx210_4 := (HB.out.cell (World.block_lt_of_cell? w _ hx210_4)).trans hx210_4
           have HR210_0 := zA hi210_0
           have HC210_0 := zA hl210_0
           clear hi210_0 hl210_0
           replace p210 := eq_true p210
           replace q210 := eq_true q210
           go_upto_if 57 with (first | ((with_reducible refine gate_dst (N := 11) rfl ?_); refine nxX (N := 11) (cs := #[.slice none 0 0, .int .i64 0, .int .i64 0, .int .i64 0, .int .i64 0]) (t := 79) ?_; intro gb211 hg w29 hbox hb; have BK211 := zA (hbox); have GE211 := nxG HB hg; have NB196_211 := nxL BK196 hg; have NB211_196 := nxK BK196 hg; replace HO_6 := nxS hb HO_6; replace BK196 := nxB hb BK196; replace HB := nxH hb HB; clear hb hbox hg; have hnb30 := NB211_196.out; have hnc30 := NB196_211.out; obtain ⟨hcz31_0, hcz31_1, hcz31_2, hcz31_3, hcz31_4⟩ := cz5 BK211; obtain ⟨hfz31_0, hfz31_1, hfz31_2, hfz31_3, hfz31_4⟩ := fz5 BK211; obtain ⟨hcz32_0, hcz32_1, hcz32_2, hcz32_3, hcz32_4⟩ := cz5 BK196; obtain ⟨hfz32_0, hfz32_1, hfz32_2, hfz32_3, hfz32_4⟩ := fz5 BK196) | ((with_reducible refine gate_callee (f := 75) rfl ?_); refine goesL_ (some 56) rfl rfl Tryz.func75 (by kernel_rfl) rfl #[.agg #[.int .i64 a0_0, .int .i64 a0_1, .int .i64 a0_2, .int .i64 a0_3, .slice A0_4 l0_4.length c0_4], .agg #[.slice A210_0 ((rd_T79 l1 x10_3).f0).length c210_0, .int .i64 ((rd_T79 l1 x10_3).f1), .int .i64 ((rd_T79 l1 x10_3).f2), .int .i64 ((rd_T79 l1 x10_3).f3), .int .i64 ((rd_T79 l1 x10_3).f4)]] rfl (by (try simp only [zU, zV, zW]); first | done | rfl | (simp only [zR, zQ]; rfl)) ?_; (with_reducible refine (spec_ScanOk.calls k3 a0_0 a0_1 a0_2 a0_3 _ _ l0_4 _ _ ((rd_T79 l1 x10_3).f0) ((rd_T79 l1 x10_3).f1) ((rd_T79 l1 x10_3).f2) ((rd_T79 l1 x10_3).f3) ((rd_T79 l1 x10_3).f4) t212 _ ?side1 ?side2 ?side3 ?side4 A27.out).mono ?_); (case side1 => exact Kd.C_below HR0_4.out (by repeat (first | (with_reducible first | exact HB.out | apply zC | apply zB | apply zF | refine zE ?_ GE196.out | refine zE ?_ GE211.out) | exact HB.out))); (case side2 => exact HC0_4.out); (case side3 => exact Kd.C_below HR210_0.out (by repeat (first | (with_reducible first | exact HB.out | apply zC | apply zB | apply zF | refine zE ?_ GE196.out | refine zE ?_ GE211.out) | exact HB.out))); (case side4 => exact HC210_0.out); rintro e w33 ⟨rfl, hb⟩; refine ⟨_, rfl, ?_⟩; have n0_ := zA (Kd.S_below (by (with_reducible repeat (first | apply zY | apply zZ | apply yA)); exact (yB (yC (p := ⟨gb211, 4, none⟩) (yC (p := ⟨gb211, 3, none⟩) (yC (p := ⟨gb211, 2, none⟩) (yC (p := ⟨gb211, 1, none⟩) (yC (p := ⟨gb211, 0, none⟩) (Kd.S_types HO_6.out BK211.out (by decide)) (fun _ hk => hk.2) (.slice A210_0 ((rd_T79 l1 x10_3).f0).length c210_0)) (fun _ hk => hk.2) (.int .i64 ((rd_T79 l1 x10_3).f1))) (fun _ hk => hk.2) (.int .i64 ((rd_T79 l1 x10_3).f2))) (fun _ hk => hk.2) (.int .i64 ((rd_T79 l1 x10_3).f3))) (fun _ hk => hk.2) (.int .i64 ((rd_T79 l1 x10_3).f4))) (fun _ h_ => h_.1))) hb); have n1_ := zA (blk_below (g := gb196) (o := .cells #[.int .i64 a0_0, .int .i64 a0_1, .int .i64 a0_2, .int .i64 a0_3, .slice A0_4 l0_4.length c0_4] 37 (0, 0)) (by (with_reducible repeat (first | refine zG ?_ _ | refine zH ?_ | refine zD ?_ _)); refine blk_far ?_ NB196_211.out _; (with_reducible repeat (first | refine zG ?_ _ | refine zH ?_ | refine zD ?_ _)); refine blk_far ?_ NB196_211.out _; (with_reducible repeat (first | refine zG ?_ _ | refine zH ?_ | refine zD ?_ _)); refine blk_far ?_ NB196_211.out _; (with_reducible repeat (first | refine zG ?_ _ | refine zH ?_ | refine zD ?_ _)); refine blk_far ?_ NB196_211.out _; (with_reducible repeat (first | refine zG ?_ _ | refine zH ?_ | refine zD ?_ _)); refine blk_far ?_ NB196_211.out _; (with_reducible repeat (first | refine zG ?_ _ | refine zH ?_ | refine zD ?_ _)); exact BK196.out) hb); have n2_ := zA (blk_below (g := gb211) (o := .cells #[.slice A210_0 ((rd_T79 l1 x10_3).f0).length c210_0, .int .i64 ((rd_T79 l1 x10_3).f1), .int .i64 ((rd_T79 l1 x10_3).f2), .int .i64 ((rd_T79 l1 x10_3).f3), .int .i64 ((rd_T79 l1 x10_3).f4)] 79 (0, 0)) (by (with_reducible repeat (first | refine zG ?_ _ | refine zH ?_ | refine zD ?_ _)); refine blk_put (cs := #[.slice A210_0 ((rd_T79 l1 x10_3).f0).length c210_0, .int .i64 ((rd_T79 l1 x10_3).f1), .int .i64 ((rd_T79 l1 x10_3).f2), .int .i64 ((rd_T79 l1 x10_3).f3), .int .i64 0]) ?_ 4 _ rfl; (with_reducible repeat (first | refine zG ?_ _ | refine zH ?_ | refine zD ?_ _)); refine blk_put (cs := #[.slice A210_0 ((rd_T79 l1 x10_3).f0).length c210_0, .int .i64 ((rd_T79 l1 x10_3).f1), .int .i64 ((rd_T79 l1 x10_3).f2), .int .i64 0, .int .i64 0]) ?_ 3 _ rfl; (with_reducible repeat (first | refine zG ?_ _ | refine zH ?_ | refine zD ?_ _)); refine blk_put (cs := #[.slice A210_0 ((rd_T79 l1 x10_3).f0).length c210_0, .int .i64 ((rd_T79 l1 x10_3).f1), .int .i64 0, .int .i64 0, .int .i64 0]) ?_ 2 _ rfl; (with_reducible repeat (first | refine zG ?_ _ | refine zH ?_ | refine zD ?_ _)); refine blk_put (cs := #[.slice A210_0 ((rd_T79 l1 x10_3).f0).length c210_0, .int .i64 0, .int .i64 0, .int .i64 0, .int .i64 0]) ?_ 1 _ rfl; (with_reducible repeat (first | refine zG ?_ _ | refine zH ?_ | refine zD ?_ _)); refine blk_put (cs := #[.slice none 0 0, .int .i64 0, .int .i64 0, .int .i64 0, .int .i64 0]) ?_ 0 _ rfl; (with_reducible repeat (first | refine zG ?_ _ | refine zH ?_ | refine zD ?_ _)); exact BK211.out) hb); have n3_ := zA (below_step (by repeat (first | (with_reducible first | exact HB.out | apply zC | apply zB | apply zF | refine zE ?_ GE196.out | refine zE ?_ GE211.out) | exact HB.out)) hb); clear HO_6; clear BK196; clear BK211; clear HB; have HO_6 := n0_; have BK196 := n1_; have BK211 := n2_; have HB := n3_; clear n0_ n1_ n2_ n3_; (try clear hb); (try clear hb2); (try clear hk); (try clear hi)))
           have H := HF28.out
           clear HF28
           by_cases c34 : t212 = true
           ·subst c34
            rw [if_pos rfl] at H
            have HC35 := zA H
            clear H
            have hnb36 := NB211_196.out
            have hnc36 := NB196_211.out
            obtain ⟨hcz37_0, hcz37_1, hcz37_2, hcz37_3, hcz37_4⟩ := cz5 BK211
            obtain ⟨hfz37_0, hfz37_1, hfz37_2, hfz37_3, hfz37_4⟩ := fz5 BK211
            go_upto_if 62 with (fail)
            go_cut [12] (fun v12 wc => ∃ (kq : Nat) (x12_34 : Int), v12 = .int .i64 x12_34 ∧ Aside0 (spec_l12Left.j4 kq l1 x6_3 x10_3 x12_34 a0_0 a0_1 a0_2 a0_3 l0_4 ((rd_T79 l1 x10_3).f0) ((rd_T79 l1 x10_3).f1) ((rd_T79 l1 x10_3).f2) ((rd_T79 l1 x10_3).f3) ((rd_T79 l1 x10_3).f4) = some (r1, r2)) ∧ Aside0 (kq ≤ k3) ∧ Aside0 (Kd.S (Kd.slice 3 (Kd.int .i64)) 66 wc w.heap.size (fun _ => True) u6 x6_3) ∧ Aside0 (wc.heap[gb196]? = some (.cells #[.int .i64 a0_0, .int .i64 a0_1, .int .i64 a0_2, .int .i64 a0_3, (.slice A0_4 l0_4.length c0_4)] 37 (0, 0))) ∧ Aside0 (wc.heap[gb211]? = some (.cells #[(.slice A210_0 ((rd_T79 l1 x10_3).f0).length c210_0), .int .i64 ((rd_T79 l1 x10_3).f1), .int .i64 ((rd_T79 l1 x10_3).f2), .int .i64 ((rd_T79 l1 x10_3).f3), .int .i64 ((rd_T79 l1 x10_3).f4)] 79 (0, 0))) ∧ Aside0 (Below w.heap.size w wc))
            case first =>
             have H := HC35.out
             clear HC35
             by_cases c38 : ((rd_T79 l1 x10_3).f3) = 0
             ·rw [if_pos c38] at H
              have c38b0 : (((rd_T79 l1 x10_3).f3) == 0) = true := beq_iff_eq.mpr c38
              have c38b1 : (((rd_T79 l1 x10_3).f3) != 0) = false := bne_eq_false_iff_eq.mpr c38
              clear c38
              (first | rw [c38b0] | rw [c38b1] | (simp only [i64_w, i32_w]; first | rw [c38b0] | rw [c38b1]) | skip)
              have H' := zA H
              clear H
              go_wp2
              go_meet
              case rel => exact ⟨_, ((-1)), rfl, H', ⟨by have := HJ2.out; have := HK2.out; have := HK3.out; first | omega | exact Nat.le_refl _⟩, ⟨nxU HO_6⟩, ⟨BK196.out⟩, ⟨BK211.out⟩, ⟨nxD HB⟩⟩
             ·rw [if_neg c38] at H
              have c38b0 : (((rd_T79 l1 x10_3).f3) == 0) = false := beq_eq_false_iff_ne.mpr c38
              have c38b1 : (((rd_T79 l1 x10_3).f3) != 0) = true := bne_iff_ne.mpr c38
              (first | rw [c38b0] | rw [c38b1] | (simp only [i64_w, i32_w]; first | rw [c38b0] | rw [c38b1]) | skip)
              have H' := zA H
              clear H
              go_wp2
              go_meet
              case rel => exact ⟨_, ((rd_T79 l1 x10_3).f3), rfl, H', ⟨by have := HJ2.out; have := HK2.out; have := HK3.out; first | omega | exact Nat.le_refl _⟩, ⟨nxU HO_6⟩, ⟨BK196.out⟩, ⟨BK211.out⟩, ⟨nxD HB⟩⟩
            case rest =>
             clear HC35
             obtain ⟨kq, x12_34, rfl, HA, HJ34, HO_6, BK196, BK211, HB⟩ := hcut
             cases kq with
             | zero => exact absurd HA.out (by simp [spec_l12Left.j4])
             | succ kj34 =>
              have H := HA.out
              clear HA
              simp only [spec_l12Left.j4] at H
              have H' := zA H
              clear H
              go_wp2
              go_loopg [13] kj34 (fun kq v13 w' => ∃ (x6_5 : List (List Int)) (x13_5 : Int), v13 = .int .i64 x13_5 ∧ Aside0 (spec_l12Left.l3 kq l1 x6_5 x10_3 x12_34 x13_5 a0_0 a0_1 a0_2 a0_3 l0_4 ((rd_T79 l1 x10_3).f0) ((rd_T79 l1 x10_3).f1) ((rd_T79 l1 x10_3).f2) ((rd_T79 l1 x10_3).f3) ((rd_T79 l1 x10_3).f4) = some (r1, r2)) ∧ Aside0 (kq ≤ kj34) ∧ Aside0 (Kd.S (Kd.slice 3 (Kd.int .i64)) 66 w' w.heap.size (fun _ => True) u6 x6_5) ∧ Aside0 (w'.heap[gb196]? = some (.cells #[.int .i64 a0_0, .int .i64 a0_1, .int .i64 a0_2, .int .i64 a0_3, (.slice A0_4 l0_4.length c0_4)] 37 (0, 0))) ∧ Aside0 (w'.heap[gb211]? = some (.cells #[(.slice A210_0 ((rd_T79 l1 x10_3).f0).length c210_0), .int .i64 ((rd_T79 l1 x10_3).f1), .int .i64 ((rd_T79 l1 x10_3).f2), .int .i64 ((rd_T79 l1 x10_3).f3), .int .i64 ((rd_T79 l1 x10_3).f4)] 79 (0, 0))) ∧ Aside0 (Below w.heap.size w w'))
              case atStart => exact ⟨(x6_3), (0), rfl, H', ⟨Nat.le_refl _⟩, ⟨nxU HO_6⟩, ⟨BK196.out⟩, ⟨BK211.out⟩, ⟨nxD HB⟩⟩
              case round =>
               clear H'
               obtain ⟨x6_5, x13_5, rfl, HA, HK5, HO_6, BK196, BK211, HB⟩ := hrel
               cases gk with
               | zero => exact absurd HA.out (by simp [spec_l12Left.l3])
               | succ k5 =>
                have H := HA.out
                clear HA
                simp only [spec_l12Left.l3] at H
                by_cases c39 : x13_5 < (((rd_T79 l1 x10_3).f0).length : Int)
                ·rw [if_pos c39] at H
                 have c39b0 := zT c39
                 clear c39
                 have H' := zA H
                 clear H
                 have hnb40 := NB211_196.out
                 have hnc40 := NB196_211.out
                 obtain ⟨hcz41_0, hcz41_1, hcz41_2, hcz41_3, hcz41_4⟩ := cz5 BK211
                 obtain ⟨hfz41_0, hfz41_1, hfz41_2, hfz41_3, hfz41_4⟩ := fz5 BK211
                 go_wp2
                 go_loopg [14] k5 (fun kq v14 w' => ∃ (x6_6 : List (List Int)) (x14_6 : Int), v14 = .int .i64 x14_6 ∧ Aside0 (spec_l12Left.l4 kq l1 x6_6 x10_3 x12_34 x13_5 x14_6 a0_0 a0_1 a0_2 a0_3 l0_4 ((rd_T79 l1 x10_3).f0) ((rd_T79 l1 x10_3).f1) ((rd_T79 l1 x10_3).f2) ((rd_T79 l1 x10_3).f3) ((rd_T79 l1 x10_3).f4) = some (r1, r2)) ∧ Aside0 (kq ≤ k5) ∧ Aside0 (Kd.S (Kd.slice 3 (Kd.int .i64)) 66 w' w.heap.size (fun _ => True) u6 x6_6) ∧ Aside0 (w'.heap[gb196]? = some (.cells #[.int .i64 a0_0, .int .i64 a0_1, .int .i64 a0_2, .int .i64 a0_3, (.slice A0_4 l0_4.length c0_4)] 37 (0, 0))) ∧ Aside0 (w'.heap[gb211]? = some (.cells #[(.slice A210_0 ((rd_T79 l1 x10_3).f0).length c210_0), .int .i64 ((rd_T79 l1 x10_3).f1), .int .i64 ((rd_T79 l1 x10_3).f2), .int .i64 ((rd_T79 l1 x10_3).f3), .int .i64 ((rd_T79 l1 x10_3).f4)] 79 (0, 0))) ∧ Aside0 (Below w.heap.size w w'))
                 case atStart => exact ⟨(x6_5), (((rd_T79 l1 x10_3).f1)), rfl, H', ⟨Nat.le_refl _⟩, ⟨nxU HO_6⟩, ⟨BK196.out⟩, ⟨BK211.out⟩, ⟨nxD HB⟩⟩
                 case round =>
                  clear H'
                  obtain ⟨x6_6, x14_6, rfl, HA, HK6, HO_6, BK196, BK211, HB⟩ := hrel
                  cases gk with
                  | zero => exact absurd HA.out (by simp [spec_l12Left.l4])
                  | succ k6 =>
                   have H := HA.out
                   clear HA
                   simp only [spec_l12Left.l4] at H
                   by_cases c42 : x14_6 ≤ ((rd_T79 l1 x10_3).f2)
                   ·rw [if_pos c42] at H
                    have c42b0 := zT c42
                    clear c42
                    by_cases c43 : 0 ≤ x13_5
                    ·rw [if_pos c43] at H
                     have c43b0 := zT c43
                     clear c43
                     by_cases c44 : x13_5 < (((rd_T79 l1 x10_3).f0).length : Int)
                     ·rw [if_pos c44] at H
                      have c44b0 := zT c44
                      clear c44
                      by_cases c45 : 0 ≤ (rd ((rd_T79 l1 x10_3).f0) x13_5)
                      ·rw [if_pos c45] at H
                       have c45b0 := zT c45
                       clear c45
                       by_cases c46 : (rd ((rd_T79 l1 x10_3).f0) x13_5) < (x6_6.length : Int)
                       ·rw [if_pos c46] at H
                        have c46b0 := zT c46
                        clear c46
                        by_cases c47 : 0 ≤ x14_6
                        ·rw [if_pos c47] at H
                         have c47b0 := zT c47
                         clear c47
                         by_cases c48 : x14_6 < ((rd_L2 x6_6 (rd ((rd_T79 l1 x10_3).f0) x13_5)).length : Int)
                         ·rw [if_pos c48] at H
                          have c48b0 := zT c48
                          clear c48
                          by_cases c49 : (rd (rd_L2 x6_6 (rd ((rd_T79 l1 x10_3).f0) x13_5)) x14_6) = x12_34
                          ·rw [if_pos c49] at H
                           have c49b0 : ((rd (rd_L2 x6_6 (rd ((rd_T79 l1 x10_3).f0) x13_5)) x14_6) == x12_34) = true := beq_iff_eq.mpr c49
                           have c49b1 : ((rd (rd_L2 x6_6 (rd ((rd_T79 l1 x10_3).f0) x13_5)) x14_6) != x12_34) = false := bne_eq_false_iff_eq.mpr c49
                           clear c49
                           obtain ⟨y221, hy221⟩ : ∃ y_ : List Int, y_ = ((rd_L2 x6_6 (rd ((rd_T79 l1 x10_3).f0) x13_5)).set (x14_6 : Int).toNat ((rd_T79 l1 x10_3).f4)) := ⟨_, rfl⟩
                           replace H : (spec_l12Left.l4 k6 l1 (x6_6.set ((rd ((rd_T79 l1 x10_3).f0) x13_5) : Int).toNat y221) x10_3 x12_34 x13_5 (wrap64 (x14_6 + 1)) a0_0 a0_1 a0_2 a0_3 l0_4 ((rd_T79 l1 x10_3).f0) ((rd_T79 l1 x10_3).f1) ((rd_T79 l1 x10_3).f2) ((rd_T79 l1 x10_3).f3) ((rd_T79 l1 x10_3).f4)) = some (r1, r2) := by first | (rw [hy221]; with_reducible exact H) | (have H2_ := (zS _ _).symm.trans H; rw [hy221]; with_reducible exact H2_) | (have H2_ := (zS _ _).symm.trans H; with_reducible exact H2_) | with_reducible exact H | (rw [hy221]; exact H) | exact H
                           have Ny221 := zA hy221
                           clear hy221
                           obtain ⟨y223, hy223⟩ : ∃ y_ : List (List Int), y_ = (x6_6.set ((rd ((rd_T79 l1 x10_3).f0) x13_5) : Int).toNat y221) := ⟨_, rfl⟩
                           replace H : (spec_l12Left.l4 k6 l1 y223 x10_3 x12_34 x13_5 (wrap64 (x14_6 + 1)) a0_0 a0_1 a0_2 a0_3 l0_4 ((rd_T79 l1 x10_3).f0) ((rd_T79 l1 x10_3).f1) ((rd_T79 l1 x10_3).f2) ((rd_T79 l1 x10_3).f3) ((rd_T79 l1 x10_3).f4)) = some (r1, r2) := by first | (rw [hy223]; with_reducible exact H) | (have H2_ := (zS _ _).symm.trans H; rw [hy223]; with_reducible exact H2_) | (have H2_ := (zS _ _).symm.trans H; with_reducible exact H2_) | with_reducible exact H | (rw [hy223]; exact H) | exact H
                           have Ny223 := zA hy223
                           clear hy223
                           have H' := zA H
                           clear H
                           have hnb51 := NB211_196.out
                           have hnc51 := NB196_211.out
                           obtain ⟨hcz52_0, hcz52_1, hcz52_2, hcz52_3, hcz52_4⟩ := cz5 BK211
                           obtain ⟨hfz52_0, hfz52_1, hfz52_2, hfz52_3, hfz52_4⟩ := fz5 BK211
                           have p216 : 0 ≤ (x13_5 : Int) := zI (by first | (with_reducible assumption) | assumption)
                           have q216 : x13_5 < (((rd_T79 l1 x10_3).f0).length : Int) := zI (by first | (with_reducible assumption) | assumption)
                           obtain ⟨ad216, e216, hx216_0⟩ := Kd.at_int HR210_0.out x13_5 p216 q216
                           cases e216
                           replace hx216_0 := (HB.out.cell (World.block_lt_of_cell? w _ hx216_0)).trans hx216_0
                           replace p216 := eq_true p216
                           replace q216 := eq_true q216
                           obtain ⟨Ao53, co53, eo53⟩ := Kd.S_slice HO_6.out
                           subst eo53
                           have p217 : 0 ≤ ((rd ((rd_T79 l1 x10_3).f0) x13_5) : Int) := zI (by first | (with_reducible assumption) | assumption)
                           have q217 : (rd ((rd_T79 l1 x10_3).f0) x13_5) < (x6_6.length : Int) := zI (by first | (with_reducible assumption) | assumption)
                           obtain ⟨ad217, A217_0, c217_0, e217, hx217_0, hl217_0, hi217_0⟩ := at_L2 (Kd.S_reads' HO_6.out).2.2 (rd ((rd_T79 l1 x10_3).f0) x13_5) p217 q217
                           cases e217
                           obtain ⟨ce217, hce217, hMe217, hcc217⟩ := Kd.S_get HO_6.out [] (rd ((rd_T79 l1 x10_3).f0) x13_5) p217 (by first | exact q217 | exact zI (by first | (with_reducible assumption) | assumption) | (have e_ := (Kd.S_reads' HO_6.out).1; omega))
                           obtain ⟨ve217_0, rfl, ge217_0⟩ := hMe217
                           have hv217_0 := hcc217 0 _ rfl
                           rw [Nat.add_zero, show ((Kd.slice 3 (Kd.int .i64))).sz = 1 from rfl, Nat.mul_one] at hv217_0
                           replace hv217_0 := Option.some.inj (hv217_0.symm.trans hx217_0)
                           rw [hv217_0] at ge217_0
                           have HL217_0 := zA (show Kd.R (Kd.int .i64) 3 _ _ _ _ (rd_L2 x6_6 (rd ((rd_T79 l1 x10_3).f0) x13_5)) from ge217_0)
                           clear hv217_0 ge217_0
                           have HX217_0 := zA hx217_0
                           clear hcc217 hce217
                           have HR217_0 := zA hi217_0
                           have HC217_0 := zA hl217_0
                           clear hi217_0 hl217_0
                           replace p217 := eq_true p217
                           replace q217 := eq_true q217
                           have p218 : 0 ≤ (x14_6 : Int) := zI (by first | (with_reducible assumption) | assumption)
                           have q218 : x14_6 < ((rd_L2 x6_6 (rd ((rd_T79 l1 x10_3).f0) x13_5)).length : Int) := zI (by first | (with_reducible assumption) | assumption)
                           obtain ⟨ad218, e218, hx218_0⟩ := Kd.at_int (by repeat (first | (with_reducible exact HR217_0.out) | (with_reducible refine yH ?_ _) | (with_reducible refine yF ?_ _) | (with_reducible refine yG ?_) | exact HR217_0.out)) x14_6 p218 q218
                           cases e218
                           replace p218 := eq_true p218
                           replace q218 := eq_true q218
                           try go_wp2
                           replace HO_6 := zA (yA HO_6.out)
                           replace HL217_0 := zA (zO HL217_0.out)
                           replace BK196 := zA (zH BK196.out)
                           replace BK211 := zA (zH BK211.out)
                           replace HR217_0 := zA (yG HR217_0.out)
                           replace HB := zA (zF HB.out)
                           have p219 : 0 ≤ (x13_5 : Int) := zI (by first | (with_reducible assumption) | assumption)
                           have q219 : x13_5 < (((rd_T79 l1 x10_3).f0).length : Int) := zI (by first | (with_reducible assumption) | assumption)
                           obtain ⟨ad219, e219, hx219_0⟩ := Kd.at_int HR210_0.out x13_5 p219 q219
                           have hw219_0 := hx219_0
                           obtain rfl : ad216 = ad219 := (by injection e219)
                           replace hx219_0 := (HB.out.cell (World.block_lt_of_cell? w _ hx219_0)).trans hx219_0
                           replace p219 := eq_true p219
                           replace q219 := eq_true q219
                           have p220 : 0 ≤ ((rd ((rd_T79 l1 x10_3).f0) x13_5) : Int) := zI (by first | (with_reducible assumption) | assumption)
                           have q220 : (rd ((rd_T79 l1 x10_3).f0) x13_5) < (x6_6.length : Int) := zI (by first | (with_reducible assumption) | assumption)
                           obtain ⟨ad220, A220_0, c220_0, e220, hx220_0, hl220_0, hi220_0⟩ := at_L2 (Kd.S_reads' HO_6.out).2.2 (rd ((rd_T79 l1 x10_3).f0) x13_5) p220 q220
                           obtain rfl : ad217 = ad220 := (by injection e220)
                           obtain ⟨ce220, hce220, hMe220, hcc220⟩ := Kd.S_get HO_6.out [] (rd ((rd_T79 l1 x10_3).f0) x13_5) p220 (by first | exact q220 | exact zI (by first | (with_reducible assumption) | assumption) | (have e_ := (Kd.S_reads' HO_6.out).1; omega))
                           obtain ⟨ve220_0, rfl, ge220_0⟩ := hMe220
                           have hv220_0 := hcc220 0 _ rfl
                           rw [Nat.add_zero, show ((Kd.slice 3 (Kd.int .i64))).sz = 1 from rfl, Nat.mul_one] at hv220_0
                           replace hv220_0 := Option.some.inj (hv220_0.symm.trans hx220_0)
                           rw [hv220_0] at ge220_0
                           have HL220_0 := zA (show Kd.R (Kd.int .i64) 3 _ _ _ _ (rd_L2 x6_6 (rd ((rd_T79 l1 x10_3).f0) x13_5)) from ge220_0)
                           clear hv220_0 ge220_0
                           have HX220_0 := zA hx220_0
                           clear hcc220 hce220
                           have HR220_0 := zA hi220_0
                           have HC220_0 := zA hl220_0
                           clear hi220_0 hl220_0
                           replace p220 := eq_true p220
                           replace q220 := eq_true q220
                           have p50 : 0 ≤ (x14_6 : Int) := zI (by first | (with_reducible assumption) | assumption)
                           have q50 : (x14_6 : Int) < (((rd_L2 x6_6 (rd ((rd_T79 l1 x10_3).f0) x13_5)).length : Int) : Int) := zI (by first | (with_reducible assumption) | assumption)
                           obtain ⟨go50, co50, eo50, gb50, gl50, cl50, HG50⟩ := Kd.R_form HL220_0.out (by omega)
                           (first | cases eo50 | (injection eo50 with ea_ en_ ec_; (first | subst ea_ | (injection ea_ with ea_; subst ea_)); subst ec_; clear en_))
                           have GB50 := zA gb50
                           have GG50 := zA HG50
                           clear gb50 gl50 HG50
                           obtain ⟨hx50_0, hf50_0⟩ := Kd.R_celln 0 HL220_0.out (x14_6 : Int) p50 q50
                           replace p50 := eq_true p50
                           replace q50 := eq_true q50
                           have hq55 : ((rd ((rd_T79 l1 x10_3).f0) x13_5) : Int) < (x6_6.length : Int) := (by have h_ : ((rd ((rd_T79 l1 x10_3).f0) x13_5) : Int) < ((x6_6.length : Int) : Int) := zI (by first | (with_reducible assumption) | assumption); first | exact h_ | (have e_ := (Kd.S_reads' HO_6.out).1; omega) | simpa only [List.length_set, List.length_set] using h_)
                           obtain ⟨oki55, ce55, hcl55, hM55, hcc55, hok55, hbk55⟩ := Kd.S_borrow HO_6.out [] ((rd ((rd_T79 l1 x10_3).f0) x13_5) : Int) (zI (by first | (with_reducible assumption) | assumption)) hq55
                           obtain ⟨ve55_0, rfl, ge55_0⟩ := hM55
                           have hv55 := hcc55 0 _ rfl
                           rw [Nat.add_zero, show ((Kd.slice 3 (Kd.int .i64))).sz = 1 from rfl, Nat.mul_one] at hv55
                           replace hv55 := Option.some.inj (hv55.symm.trans HX220_0.out)
                           subst hv55
                           clear hcc55 hcl55
                           replace ge55_0 := (show Kd.R (Kd.int .i64) 3 _ _ _ _ (rd_L2 x6_6 (rd ((rd_T79 l1 x10_3).f0) x13_5)) from ge55_0)
                           have HP55 := Kd.R_putg ge55_0 (x14_6 : Int) ((rd_T79 l1 x10_3).f4)
                           rw [← Ny221.out] at HP55
                           have HS55 := hbk55 HP55.2 (fun k_ e_ => by injection e_ with e_; subst e_; exact ge55_0.1 _ rfl) (x' := y221) (Kd.M_row HP55.1)
                           rw [← Ny223.out] at HS55
                           have HQ55 := zA HS55
                           clear HP55 HS55 hbk55 hok55
                           refine start_ (n := 13) (S := fun w' => w'.cell? ⟨gb211, 0, none⟩ = some (.slice (some ad216) ((rd_T79 l1 x10_3).f0).length c210_0) ∧ w'.cell? ⟨gb211, 1, none⟩ = some (.int .i64 ((rd_T79 l1 x10_3).f1)) ∧ w'.cell? ⟨gb211, 2, none⟩ = some (.int .i64 ((rd_T79 l1 x10_3).f2)) ∧ w'.cell? ⟨gb211, 3, none⟩ = some (.int .i64 ((rd_T79 l1 x10_3).f3)) ∧ w'.cell? ⟨gb211, 4, none⟩ = some (.int .i64 ((rd_T79 l1 x10_3).f4)) ∧ w'.cell? (ad216.add (x13_5).toNat) = some (.int .i64 (rd ((rd_T79 l1 x10_3).f0) x13_5)) ∧ w'.cell? (ad217.add ((rd ((rd_T79 l1 x10_3).f0) x13_5)).toNat) = some (.slice (some ⟨go50, 0, none⟩) (rd_L2 x6_6 (rd ((rd_T79 l1 x10_3).f0) x13_5)).length c220_0)) (ds := [12]) #[false, false, false, false, false, false, false, false, false, false, false, false, false] (by kernel_rfl) rfl rfl ⟨(zK BK211.out 0).trans rfl, (zK BK211.out 1).trans rfl, (zK BK211.out 2).trans rfl, (zK BK211.out 3).trans rfl, (zK BK211.out 4).trans rfl, ((HB.out.cell (World.block_lt_of_cell? w _ hw219_0)).trans hw219_0), hx220_0⟩ (fun hHeld => ?_); refine with_tabW spec_l12Left.tab30 spec_l12Left.bits30 (fun HT_ HW_ => ?_)
                           generalize wr.drew = w54 at HO_6 HL217_0 BK196 BK211 HR217_0 HB GG50 HL220_0 HQ55 HR220_0 HX220_0 hf50_0 hx219_0 hx220_0 hx50_0 hHeld ⊢
                           refine nxY 0 92 HT_ rfl rfl ?_
                           refine nxY 1 93 HT_ rfl rfl ?_
                           refine nxY 3 95 HT_ rfl rfl ?_
                           refine nxY 8 100 HT_ rfl rfl ?_
                           refine nxY 9 101 HT_ rfl rfl ?_
                           refine nxW 2 94 HT_ HW_ hHeld rfl rfl ?_
                           refine nxY 4 96 HT_ rfl rfl ?_
                           refine nxW 5 97 HT_ HW_ hHeld rfl rfl ?_
                           refine nxY 6 98 HT_ rfl rfl ?_
                           refine nxW 7 99 HT_ HW_ hHeld rfl rfl ?_
                           refine nxW 10 102 HT_ HW_ hHeld rfl rfl ?_
                           refine nxY 11 103 HT_ rfl rfl ?_
                           refine last_ (i := 12) (N := none) #[true, true, true, true, true, true, true, true, true, true, true, true, true] rfl rfl (one_of HT_.out (by kernel_rfl)) (by decide) (fun K hK => ?_)
                           refine skip_ (w1 := ?_) (by rfl) rfl ?_ ?_
                           rotate_left
                           ·go_simp
                            rfl
                           refine hK.out _ _ ?_
                           clear hK K
                           refine done_ (done_of HT_.out (by kernel_rfl)) ?_
                           try go_wp2
                           go_roundg k6
                           case measure => have := HJ2.out; have := HK2.out; have := HK3.out; have := HJ34.out; have := HK5.out; have := HK6.out; omega
                           case rel => exact ⟨(y223), (wrap64 (x14_6 + 1)), rfl, H', ⟨by have := HJ2.out; have := HK2.out; have := HK3.out; have := HJ34.out; have := HK5.out; have := HK6.out; omega⟩, ⟨nxU HQ55⟩, ⟨by (with_reducible repeat (first | refine zG ?_ _ | refine zH ?_ | refine zD ?_ _)); refine blk_far ?_ (by have h_ := Kd.R_ne HL220_0.out BK196.out (by decide); intro e_; exact h_ (by rw [e_]; rfl)) _; (with_reducible repeat (first | refine zG ?_ _ | refine zH ?_ | refine zD ?_ _)); exact BK196.out⟩, ⟨by (with_reducible repeat (first | refine zG ?_ _ | refine zH ?_ | refine zD ?_ _)); refine blk_far ?_ (by have h_ := Kd.R_ne HL220_0.out BK211.out (by decide); intro e_; exact h_ (by rw [e_]; rfl)) _; (with_reducible repeat (first | refine zG ?_ _ | refine zH ?_ | refine zD ?_ _)); exact BK211.out⟩, ⟨by repeat (first | (with_reducible first | exact HB.out | apply zC | apply zB | apply zF | refine zE ?_ GB50.out | refine zE ?_ GE196.out | refine zE ?_ GE211.out) | exact HB.out)⟩⟩
                          ·rw [if_neg c49] at H
                           have c49b0 : ((rd (rd_L2 x6_6 (rd ((rd_T79 l1 x10_3).f0) x13_5)) x14_6) == x12_34) = false := beq_eq_false_iff_ne.mpr c49
                           have c49b1 : ((rd (rd_L2 x6_6 (rd ((rd_T79 l1 x10_3).f0) x13_5)) x14_6) != x12_34) = true := bne_iff_ne.mpr c49
                           obtain ⟨y224, hy224⟩ : ∃ y_ : List (List Int), y_ = (([] : List (List Int))) := ⟨_, rfl⟩
                           replace H : (some (y224, false)) = some (r1, r2) := by first | (rw [hy224]; with_reducible exact H) | (have H2_ := (zS _ _).symm.trans H; rw [hy224]; with_reducible exact H2_) | (have H2_ := (zS _ _).symm.trans H; with_reducible exact H2_) | with_reducible exact H | (rw [hy224]; exact H) | exact H
                           have Ny224 := zA hy224
                           clear hy224
                           simp only [Option.some.injEq, Prod.mk.injEq] at H
                           obtain ⟨rfl, rfl⟩ := H
                           have hnb57 := NB211_196.out
                           have hnc57 := NB196_211.out
                           obtain ⟨hcz58_0, hcz58_1, hcz58_2, hcz58_3, hcz58_4⟩ := cz5 BK211
                           obtain ⟨hfz58_0, hfz58_1, hfz58_2, hfz58_3, hfz58_4⟩ := fz5 BK211
                           have p216 : 0 ≤ (x13_5 : Int) := zI (by first | (with_reducible assumption) | assumption)
                           have q216 : x13_5 < (((rd_T79 l1 x10_3).f0).length : Int) := zI (by first | (with_reducible assumption) | assumption)
                           obtain ⟨ad216, e216, hx216_0⟩ := Kd.at_int HR210_0.out x13_5 p216 q216
                           cases e216
                           replace hx216_0 := (HB.out.cell (World.block_lt_of_cell? w _ hx216_0)).trans hx216_0
                           replace p216 := eq_true p216
                           replace q216 := eq_true q216
                           obtain ⟨Ao59, co59, eo59⟩ := Kd.S_slice HO_6.out
                           subst eo59
                           have p217 : 0 ≤ ((rd ((rd_T79 l1 x10_3).f0) x13_5) : Int) := zI (by first | (with_reducible assumption) | assumption)
                           have q217 : (rd ((rd_T79 l1 x10_3).f0) x13_5) < (x6_6.length : Int) := zI (by first | (with_reducible assumption) | assumption)
                           obtain ⟨ad217, A217_0, c217_0, e217, hx217_0, hl217_0, hi217_0⟩ := at_L2 (Kd.S_reads' HO_6.out).2.2 (rd ((rd_T79 l1 x10_3).f0) x13_5) p217 q217
                           cases e217
                           obtain ⟨ce217, hce217, hMe217, hcc217⟩ := Kd.S_get HO_6.out [] (rd ((rd_T79 l1 x10_3).f0) x13_5) p217 (by first | exact q217 | exact zI (by first | (with_reducible assumption) | assumption) | (have e_ := (Kd.S_reads' HO_6.out).1; omega))
                           obtain ⟨ve217_0, rfl, ge217_0⟩ := hMe217
                           have hv217_0 := hcc217 0 _ rfl
                           rw [Nat.add_zero, show ((Kd.slice 3 (Kd.int .i64))).sz = 1 from rfl, Nat.mul_one] at hv217_0
                           replace hv217_0 := Option.some.inj (hv217_0.symm.trans hx217_0)
                           rw [hv217_0] at ge217_0
                           have HL217_0 := zA (show Kd.R (Kd.int .i64) 3 _ _ _ _ (rd_L2 x6_6 (rd ((rd_T79 l1 x10_3).f0) x13_5)) from ge217_0)
                           clear hv217_0 ge217_0
                           have HX217_0 := zA hx217_0
                           clear hcc217 hce217
                           have HR217_0 := zA hi217_0
                           have HC217_0 := zA hl217_0
                           clear hi217_0 hl217_0
                           replace p217 := eq_true p217
                           replace q217 := eq_true q217
                           have p218 : 0 ≤ (x14_6 : Int) := zI (by first | (with_reducible assumption) | assumption)
                           have q218 : x14_6 < ((rd_L2 x6_6 (rd ((rd_T79 l1 x10_3).f0) x13_5)).length : Int) := zI (by first | (with_reducible assumption) | assumption)
                           obtain ⟨ad218, e218, hx218_0⟩ := Kd.at_int (by repeat (first | (with_reducible exact HR217_0.out) | (with_reducible refine yH ?_ _) | (with_reducible refine yF ?_ _) | (with_reducible refine yG ?_) | exact HR217_0.out)) x14_6 p218 q218
                           cases e218
                           replace p218 := eq_true p218
                           replace q218 := eq_true q218
                           go_wp2_with (first | ((with_reducible refine gate_dst (N := 91) rfl ?_); refine Kd.S_lit (Kd.slice 3 (Kd.int .i64)) _ 66 ?hg (N := 91) ?hd (xs := ([] : List (List Int))) (inner := []) (ok := fun _ => True) (okp := fun _ => True) ?hr ?hp (fun _ hk => hk) trivial (Below.refl _ _) (Nat.le_refl _) (by simp) ?_; (case hd => rfl); (case hg => rfl); (case hr => first | (go_simp; done) | (go_simp; rfl)); (case hp => exact (Reps.none _ _)); intro v225 w60 ho61 hb hg_ hnew_; clear hg_ hnew_; (first | rw [← Ny224.out] at ho61 | (simp only [Int.reduceToNat] at ho61; rw [← Ny224.out] at ho61)); have n0_ := nxF hb HO_6 (Kd.S_base ho61); have n1_ := nxR hb HL217_0; have n2_ := zA (Kd.S_lower (Kd.S_new' (Kd.S_new' ho61 (Kd.S_lt (by (with_reducible repeat (first | apply zY | apply zZ | apply yA)); exact HO_6.out))) (Kd.R_lt (by (with_reducible repeat (first | apply zN | apply zM | apply zO)); exact HL217_0.out))) (zL (by repeat (first | (with_reducible first | exact HB.out | apply zC | apply zB | apply zF | refine zE ?_ GE196.out | refine zE ?_ GE211.out) | exact HB.out)))); have n3_ := nxB hb BK196; have n4_ := nxB hb BK211; have n5_ := zA (Kd.C_below (by repeat (first | (with_reducible exact HR217_0.out) | (with_reducible refine yH ?_ _) | (with_reducible refine yF ?_ _) | (with_reducible refine yG ?_) | exact HR217_0.out)) hb); have n6_ := zA (pw_cell_below hb HX217_0.out); have n7_ := nxH hb HB; clear HO_6; clear HL217_0; clear BK196; clear BK211; clear HR217_0; clear HX217_0; clear HB; have HO_6 := n0_; have HL217_0 := n1_; have HO226 := n2_; have BK196 := n3_; have BK211 := n4_; have HR217_0 := n5_; have HX217_0 := n6_; have HB := n7_; clear n0_ n1_ n2_ n3_ n4_ n5_ n6_ n7_; clear hb ho61))
                           go_ret2
                           exact ⟨_, by first | rfl | (simp [errW_none, errW_some] <;> rfl) | (simp [*, errW_none, errW_some] <;> rfl), by (with_reducible repeat (first | apply zY | apply zZ | apply yA)); exact yB HO226.out (fun _ hk => trivial), by repeat (first | (with_reducible first | exact HB.out | apply zC | apply zB | apply zF | refine zE ?_ GE196.out | refine zE ?_ GE211.out) | exact HB.out)⟩
                         ·rw [if_neg c48] at H
                          exact absurd H (by simp)
                        ·rw [if_neg c47] at H
                         exact absurd H (by simp)
                       ·rw [if_neg c46] at H
                        exact absurd H (by simp)
                      ·rw [if_neg c45] at H
                       exact absurd H (by simp)
                     ·rw [if_neg c44] at H
                      exact absurd H (by simp)
                    ·rw [if_neg c43] at H
                     exact absurd H (by simp)
                   ·rw [if_neg c42] at H
                    have c42b0 := decide_eq_false c42
                    clear c42
                    have H' := zA H
                    clear H
                    have hnb62 := NB211_196.out
                    have hnc62 := NB196_211.out
                    obtain ⟨hcz63_0, hcz63_1, hcz63_2, hcz63_3, hcz63_4⟩ := cz5 BK211
                    obtain ⟨hfz63_0, hfz63_1, hfz63_2, hfz63_3, hfz63_4⟩ := fz5 BK211
                    go_wp2
                    go_roundg k6
                    case measure => have := HJ2.out; have := HK2.out; have := HK3.out; have := HJ34.out; have := HK5.out; have := HK6.out; omega
                    case rel => exact ⟨(x6_6), (wrap64 (x13_5 + 1)), rfl, H', ⟨by have := HJ2.out; have := HK2.out; have := HK3.out; have := HJ34.out; have := HK5.out; have := HK6.out; omega⟩, ⟨nxU HO_6⟩, ⟨BK196.out⟩, ⟨BK211.out⟩, ⟨nxD HB⟩⟩
                ·rw [if_neg c39] at H
                 have c39b0 := decide_eq_false c39
                 clear c39
                 have H' := zA H
                 clear H
                 have hnb64 := NB211_196.out
                 have hnc64 := NB196_211.out
                 obtain ⟨hcz65_0, hcz65_1, hcz65_2, hcz65_3, hcz65_4⟩ := cz5 BK211
                 obtain ⟨hfz65_0, hfz65_1, hfz65_2, hfz65_3, hfz65_4⟩ := fz5 BK211
                 go_wp2
                 go_roundg k5
                 case measure => have := HJ2.out; have := HK2.out; have := HK3.out; have := HJ34.out; have := HK5.out; omega
                 case rel => exact ⟨(x6_5), (wrap64 (x10_3 + 1)), rfl, H', ⟨by have := HJ2.out; have := HK2.out; have := HK3.out; have := HJ34.out; have := HK5.out; omega⟩, ⟨nxU HO_6⟩, ⟨BK196.out⟩, ⟨nxD HB⟩⟩
           ·replace c34 := Bool.eq_false_iff.mpr c34
            subst c34
            rw [if_neg (show ¬ (false = true) by decide)] at H
            obtain ⟨y213, hy213⟩ : ∃ y_ : List (List Int), y_ = (([] : List (List Int))) := ⟨_, rfl⟩
            replace H : (some (y213, false)) = some (r1, r2) := by first | (rw [hy213]; with_reducible exact H) | (have H2_ := (zS _ _).symm.trans H; rw [hy213]; with_reducible exact H2_) | (have H2_ := (zS _ _).symm.trans H; with_reducible exact H2_) | with_reducible exact H | (rw [hy213]; exact H) | exact H
            have Ny213 := zA hy213
            clear hy213
            simp only [Option.some.injEq, Prod.mk.injEq] at H
            obtain ⟨rfl, rfl⟩ := H
            go_wp2_with (first | ((with_reducible refine gate_dst (N := 58) rfl ?_); refine Kd.S_lit (Kd.slice 3 (Kd.int .i64)) _ 66 ?hg (N := 58) ?hd (xs := ([] : List (List Int))) (inner := []) (ok := fun _ => True) (okp := fun _ => True) ?hr ?hp (fun _ hk => hk) trivial (Below.refl _ _) (Nat.le_refl _) (by simp) ?_; (case hd => rfl); (case hg => rfl); (case hr => first | (go_simp; done) | (go_simp; rfl)); (case hp => exact (Reps.none _ _)); intro v214 w66 ho67 hb hg_ hnew_; clear hg_ hnew_; (first | rw [← Ny213.out] at ho67 | (simp only [Int.reduceToNat] at ho67; rw [← Ny213.out] at ho67)); have n0_ := nxF hb HO_6 (Kd.S_base ho67); have n1_ := zA (Kd.S_lower (Kd.S_new' ho67 (Kd.S_lt (by (with_reducible repeat (first | apply zY | apply zZ | apply yA)); exact HO_6.out))) (zL (by repeat (first | (with_reducible first | exact HB.out | apply zC | apply zB | apply zF | refine zE ?_ GE196.out | refine zE ?_ GE211.out) | exact HB.out)))); have n2_ := nxB hb BK196; have n3_ := nxB hb BK211; have n4_ := nxH hb HB; clear HO_6; clear BK196; clear BK211; clear HB; have HO_6 := n0_; have HO215 := n1_; have BK196 := n2_; have BK211 := n3_; have HB := n4_; clear n0_ n1_ n2_ n3_ n4_; clear hb ho67))
            go_ret2
            exact ⟨_, by first | rfl | (simp [errW_none, errW_some] <;> rfl) | (simp [*, errW_none, errW_some] <;> rfl), by (with_reducible repeat (first | apply zY | apply zZ | apply yA)); exact yB HO215.out (fun _ hk => trivial), by repeat (first | (with_reducible first | exact HB.out | apply zC | apply zB | apply zF | refine zE ?_ GE196.out | refine zE ?_ GE211.out) | exact HB.out)⟩
          ·rw [if_neg c26] at H
           exact absurd H (by simp)
         ·rw [if_neg c25] at H
          have c25b0 := decide_eq_false c25
          clear c25
          simp only [Option.some.injEq, Prod.mk.injEq] at H
          obtain ⟨rfl, rfl⟩ := H
          go_wp2
          go_ret2
          exact ⟨_, by first | rfl | (simp [errW_none, errW_some] <;> rfl) | (simp [*, errW_none, errW_some] <;> rfl), by (with_reducible repeat (first | apply zY | apply zZ | apply yA)); exact HO_6.out, by repeat (first | (with_reducible first | exact HB.out | apply zC | apply zB | apply zF | refine zE ?_ GE196.out) | exact HB.out)⟩
theorem getD_rows (L : List (List Int)) (c : Nat) (h : c < L.length) : rd_L2 L (c : Int) = L.getD c [] := by simp [rd_L2]
theorem spec_l12Left.l4_ev (script : List SN) (p w h r : Int) (l : List SC) (x10 want : Int) (i : Nat) (s : SN) (n : Nat) (hi : i < s.f0.length) (c : Nat) (hc : s.f0[i] = (c : Int)) (hcn : c < n) (f t : Nat) (t63 : t ≤ 63)
  (R : Option (List (List Int))) (G : List (List Int) → Option (List (List Int))) (hG : ∀ L, Rows64 n L → G L = R → Ev (fun k => spec_l12Left.l3 k script L x10 want (wrap64 ((i : Int) + 1)) p w h r l s.f0 (f : Int) (t : Int) s.f3 s.f4) (leftRes R)) :
  ∀ (m : Nat) (k : Nat) (L : List (List Int)), k + m = t + 1 → Rows64 n L → (tellK want s.f4 c m k L).bind G = R → Ev (fun q => spec_l12Left.l4 q script L x10 want (i : Int) (k : Int) p w h r l s.f0 (f : Int) (t : Int) s.f3 s.f4) (leftRes R) := by
 intro m
 induction m with
 | zero =>
  intro k L hk hL hR
  exact Ev.step (fun _ => by rw [spec_l12Left.l4]) (Ev.ng (by omega) (hG L hL (by rw [← hR]; rfl)))
 | succ m ih =>
  intro k L hk hL hR
  have e1 : rd s.f0 (i : Int) = (c : Int) := by rw [rd_nat s.f0 i hi, hc]
  have hrow := hL.get c hcn
  have hlen : L.length = n := hL.1
  refine Ev.step (fun _ => by rw [spec_l12Left.l4]) (Ev.ip (by omega) (Ev.ip (by omega) (Ev.ip (by omega) ?_)))
  rw [e1, getD_rows L c (by omega)]
  refine Ev.ip (by omega) (Ev.ip (by omega) (Ev.ip (by omega) (Ev.ip (by omega) ?_)))
  rw [tellK] at hR
  by_cases hq : rd (L.getD c []) (k : Int) = want
  ·rw [if_pos hq] at hR
   refine Ev.ip hq ?_
   rw [wrap_succ k (by omega), Int.toNat_natCast, Int.toNat_natCast]
   exact ih (k + 1) _ (by omega) (hL.set c k s.f4 hcn) hR
  ·rw [if_neg hq] at hR
   refine Ev.ng hq (Ev.eq (Ev.now _) ?_)
   rw [← hR]; rfl
theorem spec_l12Left.l3_ev (script : List SN) (p w h r : Int) (l : List SC) (x10 want : Int) (s : SN) (n : Nat) (hs : s.f0.length ≤ 2000000) (hc : ∀ c ∈ s.f0, 0 ≤ c ∧ c < n) (f t : Nat) (ft : f ≤ t) (t63 : t ≤ 63)
  (R : Option (List (List Int))) (G : List (List Int) → Option (List (List Int))) (hG : ∀ L, Rows64 n L → G L = R → Ev (fun k => spec_l12Left.l2 k script L (wrap64 (x10 + 1)) p w h r l) (leftRes R)) :
  ∀ (d i : Nat) (L : List (List Int)), i + d = s.f0.length → Rows64 n L → (tellC want s.f4 f (t - f + 1) (s.f0.drop i) L).bind G = R → Ev (fun q => spec_l12Left.l3 q script L x10 want (i : Int) p w h r l s.f0 (f : Int) (t : Int) s.f3 s.f4) (leftRes R) := by
 intro d
 induction d with
 | zero =>
  intro i L hi hL hR
  rw [List.drop_of_length_le (by omega), tellC] at hR
  exact Ev.step (fun _ => by rw [spec_l12Left.l3]) (Ev.ng (by omega) (hG L hL hR))
 | succ d ih =>
  intro i L hi hL hR
  have hlt : i < s.f0.length := by omega
  obtain ⟨c0, c1⟩ := hc s.f0[i] (List.getElem_mem hlt)
  obtain ⟨c, hce⟩ : ∃ c : Nat, s.f0[i] = (c : Int) := ⟨s.f0[i].toNat, by omega⟩
  rw [List.drop_eq_getElem_cons hlt, tellC, hce, Int.toNat_natCast] at hR
  refine Ev.step (fun _ => by rw [spec_l12Left.l3]) (Ev.ip (by omega) ?_)
  refine spec_l12Left.l4_ev script p w h r l x10 want i s n hlt c hce (by omega) f t t63 R (fun L => (tellC want s.f4 f (t - f + 1) (s.f0.drop (i + 1)) L).bind G) (fun L2 hL2 hR2 => ?_) (t - f + 1) f L (by omega) hL (by rw [← hR, Option.bind_assoc])
  rw [wrap_succ i (by omega)]
  exact ih (i + 1) L2 (by omega) hL2 hR2
theorem spec_l12Left.l2_ev (script : List SN) (p w h r : Int) (l : List SC) (hF : frameOkM p w h r l = true) (hm : script.length ≤ 2000000) (hsl : ∀ s ∈ script, s.f0.length ≤ 2000000) :
  ∀ (d j : Nat) (L : List (List Int)), j + d = script.length → Rows64 l.length L → Ev (fun k => spec_l12Left.l2 k script L (j : Int) p w h r l) (leftRes (leftGo2 l.length (script.drop j) L)) := by
 intro d
 induction d with
 | zero =>
  intro j L hj hL
  rw [List.drop_of_length_le (by omega)]
  refine Ev.step (fun _ => by rw [spec_l12Left.l2]) (Ev.ng (by omega) (Ev.eq (Ev.now _) ?_))
  rfl
 | succ d ih =>
  intro j L hj hL
  have hlt : j < script.length := by omega
  have hx : rd_T79 script (j : Int) = script[j] := by simp [rd_T79, hlt]
  refine Ev.step (fun _ => by rw [spec_l12Left.l2]) (Ev.ip (by omega) (Ev.ip (by omega) ?_))
  rw [hx, List.drop_eq_getElem_cons hlt, leftGo2]
  obtain ⟨s, hs⟩ : ∃ s, s = script[j] := ⟨_, rfl⟩
  have hsm : s ∈ script := by rw [hs]; exact List.getElem_mem hlt
  rw [← hs]
  refine Ev.bind (spec_ScanOk.ev p w h r l s.f0 s.f1 s.f2 s.f3 s.f4 hF (hsl s hsm)) ?_
  by_cases ho : scanOkM l.length s = true
  ·rw [if_pos ho]
   refine Ev.ip ho ?_
   have ho2 := ho
   unfold scanOkM at ho2
   rw [Bool.and_eq_true] at ho2
   obtain ⟨g0, g1, g2, g3, g4, g5⟩ := pass_of ho2.2
   obtain ⟨f, hf⟩ : ∃ f : Nat, s.f1 = (f : Int) := ⟨s.f1.toNat, by omega⟩
   obtain ⟨t, ht⟩ : ∃ t : Nat, s.f2 = (t : Int) := ⟨s.f2.toNat, by omega⟩
   have go : ∀ want : Int, want = (if s.f3 > 0 then s.f3 else -1) → Ev (fun k => spec_l12Left.j4 k script L (j : Int) want p w h r l s.f0 s.f1 s.f2 s.f3 s.f4) (leftRes ((tellR s L).bind (leftGo2 l.length (script.drop (j + 1))))) := by
    intro want hw
    refine Ev.step (fun _ => by rw [spec_l12Left.j4]) ?_
    rw [hf, ht]
    refine spec_l12Left.l3_ev script p w h r l (j : Int) want s l.length (hsl s hsm) (comps_in ho2.1) f t (by omega) (by omega) _ (leftGo2 l.length (script.drop (j + 1))) (fun L2 hL2 hR2 => ?_) s.f0.length 0 L (Nat.zero_add _) hL ?_
    ·rw [wrap_succ j (by omega), ← hR2]
     exact ih (j + 1) L2 (by omega) hL2
    ·rw [List.drop_zero, tellR, hw, hf, ht, Int.toNat_natCast, show ((t : Int) - (f : Int) + 1).toNat = t - f + 1 by omega]
   by_cases h0 : s.f3 = 0
   ·exact Ev.ip h0 (go (-1) (by rw [if_neg (by omega)]))
   ·exact Ev.ng h0 (go s.f3 (by rw [if_pos (by omega)]))
  ·rw [if_neg ho]
   refine Ev.ng ho (Ev.eq (Ev.now _) ?_)
   rfl
theorem spec_l12Left.l1_ev (script : List SN) (out : List (List Int)) (p w h r : Int) (l : List SC) (i : Nat) (ho : out.length ≤ 10) (hi : i ≤ 10) (R : List (List Int) × Bool) (hR : Ev (fun k => spec_l12Left.l0 k script (out ++ [List.replicate 64 (-1)]) ((i + 1 : Nat) : Int) p w h r l) R) :
  ∀ d j : Nat, j + d = 64 → Ev (fun k => spec_l12Left.l1 k script out (i : Int) (List.replicate j (-1)) (j : Int) p w h r l) R := by
 intro d
 induction d with
 | zero =>
  intro j hj
  refine Ev.step (fun _ => by rw [spec_l12Left.l1]) (Ev.ng (by omega) (Ev.ip (by omega) ?_))
  rw [wrap_succ i (by omega), show j = 64 by omega]
  exact hR
 | succ d ih =>
  intro j hj
  refine Ev.step (fun _ => by rw [spec_l12Left.l1]) (Ev.ip (by omega) (Ev.ip (by rw [List.length_replicate]; omega) ?_))
  rw [wrap_succ j (by omega), ← List.replicate_succ']
  exact ih (j + 1) (by omega)
theorem spec_l12Left.l0_ev (script : List SN) (p w h r : Int) (l : List SC) (hl : l.length ≤ 4) (R : List (List Int) × Bool) (hR : Ev (fun k => spec_l12Left.l2 k script (untoldM l.length) 0 p w h r l) R) :
  ∀ d i : Nat, i + d = l.length → Ev (fun k => spec_l12Left.l0 k script (untoldM i) (i : Int) p w h r l) R := by
 intro d
 induction d with
 | zero =>
  intro i hi
  refine Ev.step (fun _ => by rw [spec_l12Left.l0]) (Ev.ng (by omega) ?_)
  rw [show i = l.length by omega]
  exact hR
 | succ d ih =>
  intro i hi
  refine Ev.step (fun _ => by rw [spec_l12Left.l0]) (Ev.ip (by omega) ?_)
  refine spec_l12Left.l1_ev script (untoldM i) p w h r l i (by simp [untoldM]; omega) (by omega) R ?_ 64 0 (Nat.zero_add _)
  have h2 := ih (i + 1) (by omega)
  rw [untoldM, List.replicate_succ'] at h2
  exact h2
theorem spec_l12Left.ev (script : List SN) (p w h r : Int) (l : List SC) (hm : script.length ≤ 2000000) (hsl : ∀ s ∈ script, s.f0.length ≤ 2000000) : Ev (fun k => spec_l12Left.f k p w h r l script) (leftRes (if frameOkM p w h r l = true then leftM l.length script else none)) := by
 unfold spec_l12Left.f
 refine Ev.bind (Ev.c rfl) (Ev.bind (spec_FrameOk.ev p w h r l) ?_)
 by_cases hF : frameOkM p w h r l = true
 ·rw [if_pos hF]
  refine Ev.ip hF (Ev.step (fun _ => by rw [spec_l12Left.j0]) ?_)
  by_cases h40 : script.length ≤ 40
  ·have hl := frameOk_len hF
   refine Ev.ng (by rw [decide_eq_true_eq]; omega) ?_
   have h1 := spec_l12Left.l2_ev script p w h r l hF hm hsl script.length 0 (untoldM l.length) (Nat.zero_add _) ⟨by simp [untoldM], fun x hx => by rw [(List.mem_replicate.1 hx).2]; simp⟩
   rw [List.drop_zero, leftGo2_eq] at h1
   have e : leftM l.length script = if script.all (scanOkM l.length) = true then leftGo script (untoldM l.length) else none := by
    unfold leftM
    by_cases ha : script.all (scanOkM l.length) = true
    ·rw [if_pos ha, if_pos ⟨h40, ha⟩]
    ·rw [if_neg ha, if_neg (fun q => ha q.2)]
   rw [e]
   exact spec_l12Left.l0_ev script p w h r l hl.2 _ h1 l.length 0 (Nat.zero_add _)
  ·refine Ev.ip (by rw [decide_eq_true_eq]; omega) (Ev.eq (Ev.now _) ?_)
   rw [leftM, if_neg (fun q => h40 q.1)]; rfl
 ·rw [if_neg hF]
  refine Ev.ng hF (Ev.step (fun _ => by rw [spec_l12Left.j0]) (Ev.ip rfl (Ev.eq (Ev.now _) ?_)))
  rfl
end Go.Proofs.YtilimpjcdeeaiaaGreat.G


namespace Go.Proofs.YtilimpjcdeeaiaaGreat.G
open Go.RowKit Go.Proofs.YtilimpjcdeeaiaaGreatW.PrintWords Go.Proofs.YtilimpjcdeeaiaaGreatW.PrintLast Go.Proofs.YtilimpjcdeeaiaaGreatW.PrintMore
attribute [local go_sem] max2_int min2_int max_two min_two max_three min_three max_four min_four   -- for this text's walks alone
def spec_ScriptOk.l0 : Nat → List (List Int) → Bool → Int → Option (Bool)
 | 0, _, _, _ => none
 | k + 1, x5, x6, x7 => if x7 < (x5.length : Int) then (if x6 = true then (if 0 ≤ x7 then ((spec_l11Zero.f k (rd_L2 x5 x7)).bind fun t233 => (spec_ScriptOk.l0 k x5 t233 (wrap64 (x7 + 1)))) else (none)) else (spec_ScriptOk.l0 k x5 false (wrap64 (x7 + 1)))) else (some x6)
def spec_ScriptOk.f (k : Nat) (a0_0 : Int) (a0_1 : Int) (a0_2 : Int) (a0_3 : Int) (l0_4 : List (S53)) (l1 : List (S79)) : Option (Bool) := (spec_l12Left.f k a0_0 a0_1 a0_2 a0_3 l0_4 l1).bind fun bt228 => (spec_ScriptOk.l0 k bt228.1 bt228.2 0)
set_option maxHeartbeats 8000000 in
set_option maxRecDepth 100000 in
theorem spec_ScriptOk.calls (k : Nat) (a0_0 : Int) (a0_1 : Int) (a0_2 : Int) (a0_3 : Int) (A0_4 : Option Addr) (c0_4 : Nat) (l0_4 : List (S53)) (A1 : Option Addr) (c1 : Nat) (l1 : List (S79)) (r : Bool) (w : World) (hr0_4 : Kd.C k53 w A0_4 l0_4.length l0_4) (hc0_4 : l0_4.length ≤ c0_4) (hr1 : Kd.C k79 w A1 l1.length l1) (hc1 : l1.length ≤ c1) (h : spec_ScriptOk.f k a0_0 a0_1 a0_2 a0_3 l0_4 l1 = some r) :
  Calls Tryz.prog 39 #[.agg #[.int .i64 a0_0, .int .i64 a0_1, .int .i64 a0_2, .int .i64 a0_3, .slice A0_4 l0_4.length c0_4], .slice A1 l1.length c1] w fun e w' => e = .returned (.bool r) ∧ Below w.heap.size w w' := by
 have hu37 := Tryz.underlying37
 have HR0_4 := zA hr0_4
 have HC0_4 := zA hc0_4
 clear hr0_4 hc0_4
 have HR1 := zA hr1
 have HC1 := zA hc1
 clear hr1 hc1
 have HB := zA (Below.refl w.heap.size w)
 have H : ((spec_l12Left.f k a0_0 a0_1 a0_2 a0_3 l0_4 l1).bind fun bt228 => (spec_ScriptOk.l0 k bt228.1 bt228.2 0)) = some r := h
 clear h
 replace H := Option.bind_eq_some_iff.mp H
 obtain ⟨⟨t228, t231⟩, A30, H⟩ := H
 try dsimp only at H
 have A3 := zA A30
 clear A30
 have H' := zA H
 clear H
 go_enter Tryz.func39, Tryz.ntmps39
 go_wp2_with (first | ((with_reducible refine gate_dst (N := 2) rfl ?_); refine nxX (N := 2) (cs := #[.int .i64 a0_0, .int .i64 a0_1, .int .i64 a0_2, .int .i64 a0_3, .slice A0_4 l0_4.length c0_4]) (t := 37) ?_; intro gb227 hg w4 hbox hb; have BK227 := zA (hbox); have GE227 := nxG HB hg; replace HB := nxH hb HB; clear hb hbox hg; obtain ⟨hcz5_0, hcz5_1, hcz5_2, hcz5_3, hcz5_4⟩ := cz5 BK227) | ((with_reducible refine gate_callee (f := 61) rfl ?_); refine goesL_ (some 11) rfl rfl Tryz.func61 (by kernel_rfl) rfl #[.agg #[.int .i64 a0_0, .int .i64 a0_1, .int .i64 a0_2, .int .i64 a0_3, .slice A0_4 l0_4.length c0_4], .slice A1 l1.length c1] rfl (by (try simp only [zU, zV, zW]); first | done | rfl | (simp only [zR, zQ]; rfl)) ?_; (with_reducible refine (spec_l12Left.calls k a0_0 a0_1 a0_2 a0_3 _ _ l0_4 _ _ l1 t228 t231 _ ?side1 ?side2 ?side3 ?side4 A3.out).mono ?_); (case side1 => exact nxC HR0_4 HB); (case side2 => exact HC0_4.out); (case side3 => exact nxC HR1 HB); (case side4 => exact HC1.out); rintro e w6 ⟨v229, rfl, ho0, hb⟩; refine ⟨_, rfl, ?_⟩; have n0_ := zA (Kd.S_lower ho0 (zL (by repeat (first | (with_reducible first | exact HB.out | apply zC | apply zB | apply zF | refine zE ?_ GE227.out) | exact HB.out)))); have n1_ := nxB hb BK227; have n2_ := nxH hb HB; clear BK227; clear HB; have HO230 := n0_; have BK227 := n1_; have HB := n2_; clear n0_ n1_ n2_; (try clear hb); (try clear hb2); (try clear hk); (try clear hi); (try clear ho0)))
 go_loopg [6, 7] k (fun kq v6 v7 w' => ∃ (x6_1 : Bool) (x7_1 : Int), v6 = .bool x6_1 ∧ v7 = .int .i64 x7_1 ∧ Aside0 (spec_ScriptOk.l0 kq t228 x6_1 x7_1 = some r) ∧ Aside0 (kq ≤ k) ∧ Aside0 (Kd.S (Kd.slice 3 (Kd.int .i64)) 66 w' w.heap.size (fun _ => True) v229 t228) ∧ Aside0 (w'.heap[gb227]? = some (.cells #[.int .i64 a0_0, .int .i64 a0_1, .int .i64 a0_2, .int .i64 a0_3, (.slice A0_4 l0_4.length c0_4)] 37 (0, 0))) ∧ Aside0 (Below w.heap.size w w'))
 case atStart => exact ⟨(t231), (0), rfl, rfl, H', ⟨Nat.le_refl _⟩, ⟨nxU HO230⟩, ⟨BK227.out⟩, ⟨nxD HB⟩⟩
 case round =>
  clear H'
  obtain ⟨x6_1, x7_1, rfl, rfl, HA, HK1, HO_5, BK227, HB⟩ := hrel
  cases gk with
  | zero => exact absurd HA.out (by simp [spec_ScriptOk.l0])
  | succ k1 =>
   have H := HA.out
   clear HA
   simp only [spec_ScriptOk.l0] at H
   by_cases c7 : x7_1 < (t228.length : Int)
   rotate_left
   ·rw [if_neg c7] at H
    have c7b0 := decide_eq_false c7
    clear c7
    obtain rfl := Option.some.inj H
    obtain ⟨Ao13, co13, eo13⟩ := Kd.S_slice HO_5.out
    subst eo13
    go_wp2
    go_ret
    exact ⟨rfl, nxD HB⟩
   rw [if_pos c7] at H
   have c7b0 := zT c7
   clear c7
   by_cases c8 : x6_1 = true
   rotate_left
   ·replace c8 := Bool.eq_false_iff.mpr c8
    subst c8
    rw [if_neg (show ¬ (false = true) by decide)] at H
    have H' := zA H
    clear H
    obtain ⟨Ao12, co12, eo12⟩ := Kd.S_slice HO_5.out
    subst eo12
    go_wp2
    go_roundg k1
    case measure => have := HK1.out; omega
    case rel => exact ⟨(false), (wrap64 (x7_1 + 1)), rfl, rfl, H', ⟨by have := HK1.out; omega⟩, ⟨nxU HO_5⟩, ⟨BK227.out⟩, ⟨nxD HB⟩⟩
   subst c8
   rw [if_pos rfl] at H
   by_cases c9 : 0 ≤ x7_1
   rotate_left
   ·rw [if_neg c9] at H
    exact absurd H (by simp)
   rw [if_pos c9] at H
   have c9b0 := zT c9
   clear c9
   replace H := Option.bind_eq_some_iff.mp H
   obtain ⟨t233, A100, H⟩ := H
   try dsimp only at H
   have A10 := zA A100
   clear A100
   have H' := zA H
   clear H
   obtain ⟨Ao11, co11, eo11⟩ := Kd.S_slice HO_5.out
   subst eo11
   have p232 : 0 ≤ (x7_1 : Int) := zI (by first | (with_reducible assumption) | assumption)
   have q232 : x7_1 < (t228.length : Int) := zI (by first | (with_reducible assumption) | assumption)
   obtain ⟨ad232, A232_0, c232_0, e232, hx232_0, hl232_0, hi232_0⟩ := at_L2 (Kd.S_reads' HO_5.out).2.2 x7_1 p232 q232
   cases e232
   obtain ⟨ce232, hce232, hMe232, hcc232⟩ := Kd.S_get HO_5.out [] x7_1 p232 (by first | exact q232 | exact zI (by first | (with_reducible assumption) | assumption) | (have e_ := (Kd.S_reads' HO_5.out).1; omega))
   obtain ⟨ve232_0, rfl, ge232_0⟩ := hMe232
   have hv232_0 := hcc232 0 _ rfl
   rw [Nat.add_zero, show ((Kd.slice 3 (Kd.int .i64))).sz = 1 from rfl, Nat.mul_one] at hv232_0
   replace hv232_0 := Option.some.inj (hv232_0.symm.trans hx232_0)
   rw [hv232_0] at ge232_0
   have HL232_0 := zA (show Kd.R (Kd.int .i64) 3 _ _ _ _ (rd_L2 t228 x7_1) from ge232_0)
   clear hv232_0 ge232_0
   clear hcc232 hce232
   have HR232_0 := zA hi232_0
   have HC232_0 := zA hl232_0
   clear hi232_0 hl232_0
   replace p232 := eq_true p232
   replace q232 := eq_true q232
   go_wp2_with (first | (go_at_call 60; (with_reducible refine (spec_l11Zero.calls k1 _ _ (rd_L2 t228 x7_1) t233 _ ?side1 ?side2 A10.out).mono ?_); (case side1 => repeat (first | exact (by repeat (first | (with_reducible exact HR232_0.out) | (with_reducible refine yH ?_ _) | (with_reducible refine yF ?_ _) | (with_reducible refine yG ?_) | exact HR232_0.out)) | (with_reducible refine yH ?_ _) | (with_reducible refine yF ?_ _) | (with_reducible refine yG ?_))); (case side2 => exact HC232_0.out); rintro e w' ⟨rfl, ⟨nd, rfl⟩⟩))
   go_roundg k1
   case measure => have := HK1.out; omega
   case rel => exact ⟨(t233), (wrap64 (x7_1 + 1)), rfl, rfl, H', ⟨by have := HK1.out; omega⟩, ⟨nxU HO_5⟩, ⟨BK227.out⟩, ⟨nxD HB⟩⟩
theorem spec_ScriptOk.l0_ev (L : List (List Int)) (hL : L.length ≤ 1000) (hx : ∀ x ∈ L, x.length ≤ 1000) : ∀ (d i : Nat) (b : Bool), i + d = L.length → Ev (fun k => spec_ScriptOk.l0 k L b (i : Int)) (b && (L.drop i).all (allW 0 0)) := by
 intro d
 induction d with
 | zero =>
  intro i b hi
  refine Ev.step (fun _ => by rw [spec_ScriptOk.l0]) (Ev.ng (by omega) (Ev.eq (Ev.now _) ?_))
  rw [List.drop_of_length_le (by omega)]; simp
 | succ d ih =>
  intro i b hi
  have hlt : i < L.length := by omega
  refine Ev.step (fun _ => by rw [spec_ScriptOk.l0]) (Ev.ip (by omega) ?_)
  rw [wrap_succ i (by omega), List.drop_eq_getElem_cons hlt, List.all_cons]
  cases b with
  | true =>
   refine Ev.ip rfl (Ev.ip (by omega) ?_)
   rw [show rd_L2 L (i : Int) = L[i] by simp [rd_L2, hlt]]
   refine Ev.bind (spec_l11Zero.ev L[i] (by have := hx _ (List.getElem_mem hlt); omega)) ?_
   refine Ev.eq (ih (i + 1) _ (by omega)) ?_
   rw [Bool.true_and]
  | false =>
   refine Ev.ng (by simp) (Ev.eq (ih (i + 1) false (by omega)) ?_)
   rw [Bool.false_and, Bool.false_and]
theorem spec_ScriptOk.ev (p w h r : Int) (l : List SC) (script : List SN) (hm : script.length ≤ 2000000) (hsl : ∀ s ∈ script, s.f0.length ≤ 2000000) : Ev (fun k => spec_ScriptOk.f k p w h r l script) (scriptOkM p w h r l script) := by
 unfold spec_ScriptOk.f scriptOkM
 refine Ev.bind (spec_l12Left.ev script p w h r l hm hsl) ?_
 by_cases hF : frameOkM p w h r l = true
 rotate_left
 ·rw [if_neg hF, Bool.eq_false_iff.2 hF, Bool.false_and]
  refine Ev.eq (spec_ScriptOk.l0_ev [] (by simp) (by simp) 0 0 false rfl) ?_
  rfl
 rw [if_pos hF, hF, Bool.true_and]
 have hl := frameOk_len hF
 cases hL : leftM l.length script with
 | none =>
  refine Ev.eq (spec_ScriptOk.l0_ev [] (by simp) (by simp) 0 0 false rfl) ?_
  rfl
 | some L =>
  have h64 := leftM_rows hL
  refine Ev.eq (spec_ScriptOk.l0_ev L (by have := h64.1; omega) (fun x hx => by have := h64.2 x hx; omega) L.length 0 true (Nat.zero_add _)) ?_
  rw [List.drop_zero, Bool.true_and]
end Go.Proofs.YtilimpjcdeeaiaaGreat.G


namespace Go.Proofs.YtilimpjcdeeaiaaGreat.G
open Go.RowKit Go.Proofs.YtilimpjcdeeaiaaGreatW.PrintWords Go.Proofs.YtilimpjcdeeaiaaGreatW.PrintLast Go.Proofs.YtilimpjcdeeaiaaGreatW.PrintMore
attribute [local go_sem] max2_int min2_int max_two min_two max_three min_three max_four min_four   -- for this text's walks alone
def spec_TableOk.f (k : Nat) (l0 : List Int) : Option (Bool) := (spec_l05Nums.f k l0 1 1023).bind fun t234 => (some t234)
set_option maxHeartbeats 8000000 in
set_option maxRecDepth 100000 in
theorem spec_TableOk.calls (k : Nat) (A0 : Option Addr) (c0 : Nat) (l0 : List Int) (r : Bool) (w : World) (hr0 : Kd.C (Kd.int .i64) w A0 l0.length l0) (hc0 : l0.length ≤ c0) (h : spec_TableOk.f k l0 = some r) :
  Calls Tryz.prog 40 #[.slice A0 l0.length c0] w fun e w' => e = .returned (.bool r) ∧ Drawn0 w w' := by
 have HR0 := zA hr0
 have HC0 := zA hc0
 clear hr0 hc0
 have H : ((spec_l05Nums.f k l0 1 1023).bind fun t234 => (some t234)) = some r := h
 clear h
 replace H := Option.bind_eq_some_iff.mp H
 obtain ⟨t234, A20, H⟩ := H
 try dsimp only at H
 have A2 := zA A20
 clear A20
 obtain rfl := Option.some.inj H
 go_enter Tryz.func40, Tryz.ntmps40
 go_wp2_with (first | ((with_reducible refine gate_callee (f := 62) rfl ?_); refine goesL_ (some 4) rfl rfl Tryz.func62 (by kernel_rfl) rfl #[.slice A0 l0.length c0, .int .i64 1, .int .i64 1023] rfl (by (try simp only [zU, zV, zW]); first | done | rfl | (simp only [zR, zQ]; rfl)) ?_; (with_reducible refine (spec_l05Nums.calls k _ _ l0 1 1023 t234 _ ?side1 ?side2 A2.out).mono ?_); (case side1 => repeat (first | exact HR0.out | (with_reducible refine yH ?_ _) | (with_reducible refine yF ?_ _) | (with_reducible refine yG ?_))); (case side2 => exact HC0.out); rintro e w' ⟨rfl, ⟨nd, rfl⟩⟩; refine ⟨_, rfl, ?_⟩))
 go_ret
 exact ⟨by first | rfl | (simp; done) | (simp [*]; done), by repeat (first | exact Drawn0.refl _ | apply Drawn0.step)⟩
theorem spec_TableOk.ev (q : List Int) : Ev (fun k => spec_TableOk.f k q) (tabM q) := Ev.bind (spec_l05Nums.ev 1 1023 q) (Ev.now _)
end Go.Proofs.YtilimpjcdeeaiaaGreat.G


namespace Go.Proofs.YtilimpjcdeeaiaaGreat.G
open Go.RowKit Go.Proofs.YtilimpjcdeeaiaaGreatW.PrintWords Go.Proofs.YtilimpjcdeeaiaaGreatW.PrintLast Go.Proofs.YtilimpjcdeeaiaaGreatW.PrintMore
attribute [local go_sem] max2_int min2_int max_two min_two max_three min_three max_four min_four   -- for this text's walks alone
def streamOkM (p w h r : Int) (l : List SC) (tb : List (List Int)) (pl : List (List (List Int))) (md : Int) (sc : List SN) (nt : List Int) : Bool :=
 (decide (tb.length = 4) && tb.all tabM) && (coefsOkM p w h r l pl && ((decide (0 ≤ md) && decide (md ≤ 1)) && (scriptOkM p w h r l sc && decide (nt.length ≤ 1000))))
def ceq (a b : SC) : Bool := (a.f0 == b.f0) && ((a.f1 == b.f1) && ((a.f2 == b.f2) && (a.f3 == b.f3)))
def eqComps : List SC → List SC → Bool
 | [], [] => true
 | a :: r, b :: s => ceq a b && eqComps r s
 | _, _ => false
theorem eqComps_len : ∀ (a b : List SC), a.length ≠ b.length → eqComps a b = false
 | [], [], h => absurd rfl h
 | [], _ :: _, _ => rfl
 | _ :: _, [], _ => rfl
 | a :: r, b :: s, h => by
  rw [eqComps, eqComps_len r s (fun e => h (by rw [List.length_cons, List.length_cons, e])), Bool.and_false]
def sameM (p w h r : Int) (l : List SC) (tb : List (List Int)) (pl : List (List (List Int))) (md : Int) (sc : List SN) (nt : List Int) (p' w' h' r' : Int) (l' : List SC) (tb' : List (List Int)) (pl' : List (List (List Int))) (md' : Int) (sc' : List SN) (nt' : List Int) : Bool :=
 streamOkM p w h r l tb pl md sc nt && (streamOkM p' w' h' r' l' tb' pl' md' sc' nt' && (decide (p = p') && (decide (w = w') && (decide (h = h') && (eqComps l l' && ((tb == tb') && ((pl == pl') && (nt == nt'))))))))
end Go.Proofs.YtilimpjcdeeaiaaGreat.G

