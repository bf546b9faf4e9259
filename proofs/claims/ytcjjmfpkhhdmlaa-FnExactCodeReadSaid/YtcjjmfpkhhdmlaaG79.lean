-- Written by gp.py (a program of this session's, over the kit's print). Not trusted: Lean checks it.
import Derived.Test.YtcjjmfpkhhdmlaaG0h
import Derived.Test.YtcjjmfpkhhdmlaaG146
import Derived.Test.YtcjjmfpkhhdmlaaGBits
import Derived.Test.YtcjjmfpkhhdmlaaGCodes
import Derived.Test.YtcjjmfpkhhdmlaaGLib
import Derived.Test.YtcjjmfpkhhdmlaaGReader
namespace Go.Proofs.Ytcjjmfpkhhdmlaa.G
open Go.RowKit Go.Proofs.YtcjjmfpkhhdmlaaW.PrintWords Go.Proofs.YtcjjmfpkhhdmlaaW.PrintLast Go.Proofs.YtcjjmfpkhhdmlaaW.PrintMore
attribute [local go_sem] max2_int min2_int max_two min_two max_three min_three max_four min_four   -- for this text's walks alone
set_option linter.unusedVariables false
set_option linter.unusedSimpArgs false

/-! ### spec_l08Symbol: function 79 -/
mutual
def spec_l08Symbol.l0 : Nat → List (S124) → Int → Int → List Int → Int → Bool → Option (Int × Bool × Int × Bool)
  | 0, _, _, _, _, _, _ => none
  | k + 1, x1, x6, x7, x1000, x1001, x1002 => if x7 ≤ 16 then ((spec_l01Take_bit.f x1000 x1001 x1002).bind fun bt115 => (if bt115.2.2 = true then (some (0, false, bt115.2.1, bt115.2.2)) else (spec_l08Symbol.l1 k x1 (wrap64 ((wrap64 (2 * x6)) + bt115.1)) x7 0 x1000 bt115.2.1 bt115.2.2))) else (some (0, false, x1001, x1002))
def spec_l08Symbol.l1 : Nat → List (S124) → Int → Int → Int → List Int → Int → Bool → Option (Int × Bool × Int × Bool)
  | 0, _, _, _, _, _, _, _ => none
  | k + 1, x1, x6, x7, x9, x1000, x1001, x1002 => if x9 < (x1.length : Int) then (if 0 ≤ x9 then (if ((rd_T124 x1 x9).f0) = x7 then (if ((rd_T124 x1 x9).f1) = x6 then (some (x9, true, x1001, x1002)) else (spec_l08Symbol.l1 k x1 x6 x7 (wrap64 (x9 + 1)) x1000 x1001 x1002)) else (spec_l08Symbol.l1 k x1 x6 x7 (wrap64 (x9 + 1)) x1000 x1001 x1002)) else (none)) else (spec_l08Symbol.l0 k x1 x6 (wrap64 (x7 + 1)) x1000 x1001 x1002)
end
def spec_l08Symbol.f (k : Nat) (s0_0 : List Int) (s0_1 : Int) (s0_2 : Bool) (l1 : List (S124)) : Option (Int × Bool × Int × Bool) := spec_l08Symbol.l0 k l1 0 1 s0_0 s0_1 s0_2
theorem spec_l08Symbol.mono_l : ∀ k, (∀ y0 y1 y2 y3 y4 y5, LeO (spec_l08Symbol.l0 k y0 y1 y2 y3 y4 y5) (spec_l08Symbol.l0 (k + 1) y0 y1 y2 y3 y4 y5)) ∧ (∀ y0 y1 y2 y3 y4 y5 y6, LeO (spec_l08Symbol.l1 k y0 y1 y2 y3 y4 y5 y6) (spec_l08Symbol.l1 (k + 1) y0 y1 y2 y3 y4 y5 y6))
  | 0 => ⟨fun _ _ _ _ _ _ r h => by simp [spec_l08Symbol.l0] at h, fun _ _ _ _ _ _ _ r h => by simp [spec_l08Symbol.l1] at h⟩
  | k + 1 => by
    obtain ⟨ih0, ih1⟩ := spec_l08Symbol.mono_l k
    refine ⟨?_, ?_⟩
    · intro y0 y1 y2 y3 y4 y5
      unfold spec_l08Symbol.l0
      repeat' first
      | (with_reducible exact ih0 _ _ _ _ _ _)
      | (with_reducible exact ih1 _ _ _ _ _ _ _)
      | (with_reducible exact LeO.refl _)
      | (with_reducible exact LeO.none _)
      | (with_reducible refine LeO.ite ?_ ?_)
      | (with_reducible refine LeO.bind ?_ (fun _ => ?_))
      | exact ih0 _ _ _ _ _ _
      | exact ih1 _ _ _ _ _ _ _
      | exact LeO.none _
      | refine LeO.ite ?_ ?_
      | refine LeO.bind ?_ (fun _ => ?_)
    · intro y0 y1 y2 y3 y4 y5 y6
      unfold spec_l08Symbol.l1
      repeat' first
      | (with_reducible exact ih0 _ _ _ _ _ _)
      | (with_reducible exact ih1 _ _ _ _ _ _ _)
      | (with_reducible exact LeO.refl _)
      | (with_reducible exact LeO.none _)
      | (with_reducible refine LeO.ite ?_ ?_)
      | (with_reducible refine LeO.bind ?_ (fun _ => ?_))
      | exact ih0 _ _ _ _ _ _
      | exact ih1 _ _ _ _ _ _ _
      | exact LeO.none _
      | refine LeO.ite ?_ ?_
      | refine LeO.bind ?_ (fun _ => ?_)
theorem spec_l08Symbol.mono : ∀ a0 a1 a2 a3 k, LeO (spec_l08Symbol.f k a0 a1 a2 a3) (spec_l08Symbol.f (k + 1) a0 a1 a2 a3) := by
  intro a0 a1 a2 a3 k
  obtain ⟨ih0, ih1⟩ := spec_l08Symbol.mono_l k
  unfold spec_l08Symbol.f
  repeat' first
      | (with_reducible exact ih0 _ _ _ _ _ _)
      | (with_reducible exact ih1 _ _ _ _ _ _ _)
      | (with_reducible exact LeO.refl _)
      | (with_reducible exact LeO.none _)
      | (with_reducible refine LeO.ite ?_ ?_)
      | (with_reducible refine LeO.bind ?_ (fun _ => ?_))
      | exact ih0 _ _ _ _ _ _
      | exact ih1 _ _ _ _ _ _ _
      | exact LeO.none _
      | refine LeO.ite ?_ ?_
      | refine LeO.bind ?_ (fun _ => ?_)
set_option maxHeartbeats 8000000 in
set_option maxRecDepth 100000 in
theorem spec_l08Symbol.calls (k : Nat) (g : Nat) (s0_0 : List Int) (s0_1 : Int) (s0_2 : Bool) (A1 : Option Addr) (c1 : Nat) (l1 : List (S124)) (r1 : Int) (r2 : Bool) (r3 : Int) (r4 : Bool) (w0 w : World) (hI : IsS92 w0 w g s0_0 s0_1 s0_2) (hB : Below w0.heap.size w0 w) (hr1 : ∀ W_, KeepBut w W_ g none → Kd.C k124 W_ A1 l1.length l1) (hc1 : l1.length ≤ c1) (h : spec_l08Symbol.f k s0_0 s0_1 s0_2 l1 = some (r1, r2, r3, r4)) :
    Calls Try.prog 79 #[.pointer (some ⟨g, 0, none⟩), .slice A1 l1.length c1] w fun e w' => e = .returned (.tuple #[.int .i64 r1, .bool r2]) ∧ IsS92 w0 w' g s0_0 r3 r4 ∧ Below w0.heap.size w0 w' ∧ KeepBut w w' g none := by
  have HR1 := Aside0.mk hr1
  have HC1 := Aside0.mk hc1
  clear hr1 hc1
  have HI0 := Aside0.mk hI
  have HK := Aside0.mk (KeepBut.refl w g none)
  have HL := Aside0.mk hB.size
  clear hI
  have HW0 := Aside0.mk hB.size
  have HB := Aside0.mk hB
  clear hB
  have H : (spec_l08Symbol.l0 k l1 0 1 s0_0 s0_1 s0_2) = some (r1, r2, r3, r4) := h
  clear h
  have H' := Aside0.mk H
  clear H
  go_enter Try.func79, Try.ntmps79
  go_wp2
  go_loopg [6, 7] k (fun kq v6 v7 w' => ∃ (x6_1 : Int) (x7_1 : Int) (x1001_1 : Int) (x1002_1 : Bool), v6 = .int .i64 x6_1 ∧ v7 = .int .i64 x7_1 ∧ Aside0 (spec_l08Symbol.l0 kq l1 x6_1 x7_1 s0_0 x1001_1 x1002_1 = some (r1, r2, r3, r4)) ∧ Aside0 (kq ≤ k) ∧ Aside0 (IsS92 w0 w' g s0_0 x1001_1 x1002_1) ∧ Aside0 (KeepBut w w' g none) ∧ Aside0 (Below w0.heap.size w0 w'))
  case atStart => exact ⟨(0), (1), (s0_1), (s0_2), (by first | rfl | (simp; done) | (simp [*]; done)), (by first | rfl | (simp; done) | (simp [*]; done)), H', ⟨Nat.le_refl _⟩, ⟨by repeat (first | (with_reducible first | exact HI0.out | apply IsS92.alloc | apply IsS92.drewN | apply IsS92.drew | apply IsS92.set_1 | apply IsS92.set_2) | exact HI0.out)⟩, ⟨by repeat (first | (with_reducible first | exact HK.out | apply KeepBut.set_ | apply keep_drewN | apply keep_drew | apply keep_alloc) | exact HK.out)⟩, ⟨by repeat (first | (with_reducible first | exact HB.out | apply below_alloc | apply pw_below_drewN | apply below_drew1 | refine below_set ?_ (IsS92.ge HI0.out)) | exact HB.out)⟩⟩
  case round =>
    clear H'
    try clear c1
    try clear p2
    obtain ⟨x6_1, x7_1, x1001_1, x1002_1, rfl, rfl, HA, HK1, HI0, HK, HB⟩ := hrel
    cases gk with
    | zero => exact absurd HA.out (by simp [spec_l08Symbol.l0])
    | succ k1 =>
      have H := HA.out
      clear HA
      simp only [spec_l08Symbol.l0] at H
      by_cases c3 : x7_1 ≤ 16
      · rw [if_pos c3] at H
        have c3b0 : decide (x7_1 ≤ 16) = true := decide_eq_true c3
        clear c3
        replace H := Option.bind_eq_some_iff.mp H
        obtain ⟨⟨t115, t116, t117⟩, A40, H⟩ := H
        replace H : (if t117 = true then (some (0, false, t116, t117)) else (spec_l08Symbol.l1 k1 l1 (wrap64 ((wrap64 (2 * x6_1)) + t115)) x7_1 0 s0_0 t116 t117)) = some (r1, r2, r3, r4) := H
        have A4 := Aside0.mk A40
        clear A40
        by_cases c5 : t117 = true
        · subst c5
          have H1 : (some (0, false, t116, true)) = some (r1, r2, r3, r4) := by rw [if_pos rfl] at H; exact H
          clear H
          have H := H1
          clear H1
          simp only [Option.some.injEq, Prod.mk.injEq] at H
          obtain ⟨rfl, rfl, rfl, rfl⟩ := H
          go_wp2_with (first | ((with_reducible refine gate_callee (f := 146) rfl ?_); refine goesL_ (some 15) rfl rfl Try.func146 (by kernel_rfl) rfl #[.pointer (some ⟨g, 0, none⟩)] rfl (by (try simp only [List.map_toArray, List.map_cons, List.map_nil]); first | done | rfl | (simp only [List.length_drop, List.length_take]; rfl)) ?_; (with_reducible refine (spec_l01Take_bit.calls g s0_0 x1001_1 x1002_1 t115 t116 true w0 _ ?side1 ?side2 A4.out).mono ?_); (case side1 => repeat (first | (with_reducible first | exact HI0.out | apply IsS92.alloc | apply IsS92.drewN | apply IsS92.drew | apply IsS92.set_1 | apply IsS92.set_2) | exact HI0.out)); (case side2 => repeat (first | (with_reducible first | exact HB.out | apply below_alloc | apply pw_below_drewN | apply below_drew1 | refine below_set ?_ (IsS92.ge HI0.out)) | exact HB.out)); rintro e w6 ⟨rfl, hi, hb, hk⟩; refine ⟨_, rfl, ?_⟩; have n0_ := Aside0.mk (KeepBut.trans (by repeat (first | (with_reducible first | exact HK.out | apply KeepBut.set_ | apply keep_drewN | apply keep_drew | apply keep_alloc) | exact HK.out)) hk (.inl rfl)); have n1_ := Aside0.mk (hb); have n2_ := Aside0.mk (hi); clear HK; clear HB; clear HI0; have HK := n0_; have HB := n1_; have HI0 := n2_; clear n0_ n1_ n2_; (try clear hb); (try clear hb2); (try clear hk); (try clear hi); obtain ⟨ASz7_0, cSz7_0, HGz7, hgz7, HSz7_0⟩ := HI0.out; have hcz7_0 := cellS92_0 HGz7; have hcz7_1 := cellS92_1 HGz7; have hcz7_2 := cellS92_2 HGz7; have hfz7_1 := blk_frozen HGz7 1; have hfz7_2 := blk_frozen HGz7 2; clear HGz7 hgz7))
          go_ret2
          exact ⟨by first | rfl | (simp [errW_none, errW_some] <;> rfl) | (simp [*, errW_none, errW_some] <;> rfl), by repeat (first | (with_reducible first | exact HI0.out | apply IsS92.alloc | apply IsS92.drewN | apply IsS92.drew | apply IsS92.set_1 | apply IsS92.set_2) | exact HI0.out), by repeat (first | (with_reducible first | exact HB.out | apply below_alloc | apply pw_below_drewN | apply below_drew1 | refine below_set ?_ (IsS92.ge HI0.out)) | exact HB.out), by repeat (first | (with_reducible first | exact HK.out | apply KeepBut.set_ | apply keep_drewN | apply keep_drew | apply keep_alloc) | exact HK.out)⟩
        · replace c5 := Bool.eq_false_iff.mpr c5
          subst c5
          have H1 : (spec_l08Symbol.l1 k1 l1 (wrap64 ((wrap64 (2 * x6_1)) + t115)) x7_1 0 s0_0 t116 false) = some (r1, r2, r3, r4) := by rw [if_neg (show ¬ (false = true) by decide)] at H; exact H
          clear H
          have H := H1
          clear H1
          have H' := Aside0.mk H
          clear H
          go_wp2_with (first | ((with_reducible refine gate_callee (f := 146) rfl ?_); refine goesL_ (some 15) rfl rfl Try.func146 (by kernel_rfl) rfl #[.pointer (some ⟨g, 0, none⟩)] rfl (by (try simp only [List.map_toArray, List.map_cons, List.map_nil]); first | done | rfl | (simp only [List.length_drop, List.length_take]; rfl)) ?_; (with_reducible refine (spec_l01Take_bit.calls g s0_0 x1001_1 x1002_1 t115 t116 false w0 _ ?side1 ?side2 A4.out).mono ?_); (case side1 => repeat (first | (with_reducible first | exact HI0.out | apply IsS92.alloc | apply IsS92.drewN | apply IsS92.drew | apply IsS92.set_1 | apply IsS92.set_2) | exact HI0.out)); (case side2 => repeat (first | (with_reducible first | exact HB.out | apply below_alloc | apply pw_below_drewN | apply below_drew1 | refine below_set ?_ (IsS92.ge HI0.out)) | exact HB.out)); rintro e w8 ⟨rfl, hi, hb, hk⟩; refine ⟨_, rfl, ?_⟩; have n0_ := Aside0.mk (KeepBut.trans (by repeat (first | (with_reducible first | exact HK.out | apply KeepBut.set_ | apply keep_drewN | apply keep_drew | apply keep_alloc) | exact HK.out)) hk (.inl rfl)); have n1_ := Aside0.mk (hb); have n2_ := Aside0.mk (hi); clear HK; clear HB; clear HI0; have HK := n0_; have HB := n1_; have HI0 := n2_; clear n0_ n1_ n2_; (try clear hb); (try clear hb2); (try clear hk); (try clear hi); obtain ⟨ASz9_0, cSz9_0, HGz9, hgz9, HSz9_0⟩ := HI0.out; have hcz9_0 := cellS92_0 HGz9; have hcz9_1 := cellS92_1 HGz9; have hcz9_2 := cellS92_2 HGz9; have hfz9_1 := blk_frozen HGz9 1; have hfz9_2 := blk_frozen HGz9 2; clear HGz9 hgz9))
          go_loopg [9] k1 (fun kq v9 w' => ∃ (x9_2 : Int), v9 = .int .i64 x9_2 ∧ Aside0 (spec_l08Symbol.l1 kq l1 (wrap64 ((wrap64 (2 * x6_1)) + t115)) x7_1 x9_2 s0_0 t116 false = some (r1, r2, r3, r4)) ∧ Aside0 (kq ≤ k1) ∧ Aside0 (IsS92 w0 w' g s0_0 t116 false) ∧ Aside0 (KeepBut w w' g none) ∧ Aside0 (Below w0.heap.size w0 w'))
          case atStart => exact ⟨(0), (by first | rfl | (simp; done) | (simp [*]; done)), H', ⟨Nat.le_refl _⟩, ⟨by repeat (first | (with_reducible first | exact HI0.out | apply IsS92.alloc | apply IsS92.drewN | apply IsS92.drew | apply IsS92.set_1 | apply IsS92.set_2) | exact HI0.out)⟩, ⟨by repeat (first | (with_reducible first | exact HK.out | apply KeepBut.set_ | apply keep_drewN | apply keep_drew | apply keep_alloc) | exact HK.out)⟩, ⟨by repeat (first | (with_reducible first | exact HB.out | apply below_alloc | apply pw_below_drewN | apply below_drew1 | refine below_set ?_ (IsS92.ge HI0.out)) | exact HB.out)⟩⟩
          case round =>
            clear H'
            try clear c1
            try clear p2
            try clear c3
            try clear c3b0
            try clear c5
            try clear p6
            try clear c7
            try clear hcz7_0
            try clear hcz7_1
            try clear hcz7_2
            try clear hcz9_0
            try clear hcz9_1
            try clear hcz9_2
            try clear hfz7_1
            try clear hfz7_2
            try clear hfz9_1
            try clear hfz9_2
            try clear p2
            obtain ⟨x9_2, rfl, HA, HK2, HI0, HK, HB⟩ := hrel
            cases gk with
            | zero => exact absurd HA.out (by simp [spec_l08Symbol.l1])
            | succ k2 =>
              have H := HA.out
              clear HA
              simp only [spec_l08Symbol.l1] at H
              by_cases c10 : x9_2 < (l1.length : Int)
              · rw [if_pos c10] at H
                have c10b0 : decide (x9_2 < (l1.length : Int)) = true := decide_eq_true c10
                clear c10
                by_cases c11 : 0 ≤ x9_2
                · rw [if_pos c11] at H
                  have c11b0 : decide (0 ≤ x9_2) = true := decide_eq_true c11
                  clear c11
                  by_cases c12 : ((rd_T124 l1 x9_2).f0) = x7_1
                  · rw [if_pos c12] at H
                    have c12b0 : (((rd_T124 l1 x9_2).f0) == x7_1) = true := beq_iff_eq.mpr c12
                    have c12b1 : (((rd_T124 l1 x9_2).f0) != x7_1) = false := bne_eq_false_iff_eq.mpr c12
                    clear c12
                    by_cases c13 : ((rd_T124 l1 x9_2).f1) = (wrap64 ((wrap64 (2 * x6_1)) + t115))
                    · rw [if_pos c13] at H
                      have c13b0 : (((rd_T124 l1 x9_2).f1) == (wrap64 ((wrap64 (2 * x6_1)) + t115))) = true := beq_iff_eq.mpr c13
                      have c13b1 : (((rd_T124 l1 x9_2).f1) != (wrap64 ((wrap64 (2 * x6_1)) + t115))) = false := bne_eq_false_iff_eq.mpr c13
                      clear c13
                      simp only [Option.some.injEq, Prod.mk.injEq] at H
                      obtain ⟨rfl, rfl, rfl, rfl⟩ := H
                      have p118 : 0 ≤ (x9_2 : Int) := of_decide_eq_true (by first | (with_reducible assumption) | assumption)
                      have q118 : x9_2 < (l1.length : Int) := of_decide_eq_true (by first | (with_reducible assumption) | assumption)
                      obtain ⟨ad118, e118, hx118_0, hx118_1⟩ := at_T124 (Kd.C_foot_now HR1.out HK.out) x9_2 p118 q118
                      cases e118
                      replace p118 := eq_true p118
                      replace q118 := eq_true q118
                      have p119 : 0 ≤ (x9_2 : Int) := of_decide_eq_true (by first | (with_reducible assumption) | assumption)
                      have q119 : x9_2 < (l1.length : Int) := of_decide_eq_true (by first | (with_reducible assumption) | assumption)
                      obtain ⟨ad119, e119, hx119_0, hx119_1⟩ := at_T124 (Kd.C_foot_now HR1.out HK.out) x9_2 p119 q119
                      obtain rfl : ad118 = ad119 := (by injection e119)
                      replace p119 := eq_true p119
                      replace q119 := eq_true q119
                      go_wp2
                      go_ret2
                      exact ⟨by first | rfl | (simp [errW_none, errW_some] <;> rfl) | (simp [*, errW_none, errW_some] <;> rfl), by repeat (first | (with_reducible first | exact HI0.out | apply IsS92.alloc | apply IsS92.drewN | apply IsS92.drew | apply IsS92.set_1 | apply IsS92.set_2) | exact HI0.out), by repeat (first | (with_reducible first | exact HB.out | apply below_alloc | apply pw_below_drewN | apply below_drew1 | refine below_set ?_ (IsS92.ge HI0.out)) | exact HB.out), by repeat (first | (with_reducible first | exact HK.out | apply KeepBut.set_ | apply keep_drewN | apply keep_drew | apply keep_alloc) | exact HK.out)⟩
                    · rw [if_neg c13] at H
                      have c13b0 : (((rd_T124 l1 x9_2).f1) == (wrap64 ((wrap64 (2 * x6_1)) + t115))) = false := beq_eq_false_iff_ne.mpr c13
                      have c13b1 : (((rd_T124 l1 x9_2).f1) != (wrap64 ((wrap64 (2 * x6_1)) + t115))) = true := bne_iff_ne.mpr c13
                      have H' := Aside0.mk H
                      clear H
                      have p118 : 0 ≤ (x9_2 : Int) := of_decide_eq_true (by first | (with_reducible assumption) | assumption)
                      have q118 : x9_2 < (l1.length : Int) := of_decide_eq_true (by first | (with_reducible assumption) | assumption)
                      obtain ⟨ad118, e118, hx118_0, hx118_1⟩ := at_T124 (Kd.C_foot_now HR1.out HK.out) x9_2 p118 q118
                      cases e118
                      replace p118 := eq_true p118
                      replace q118 := eq_true q118
                      have p119 : 0 ≤ (x9_2 : Int) := of_decide_eq_true (by first | (with_reducible assumption) | assumption)
                      have q119 : x9_2 < (l1.length : Int) := of_decide_eq_true (by first | (with_reducible assumption) | assumption)
                      obtain ⟨ad119, e119, hx119_0, hx119_1⟩ := at_T124 (Kd.C_foot_now HR1.out HK.out) x9_2 p119 q119
                      obtain rfl : ad118 = ad119 := (by injection e119)
                      replace p119 := eq_true p119
                      replace q119 := eq_true q119
                      go_wp2
                      go_roundg k2
                      case measure => have := HK1.out; have := HK2.out; omega
                      case rel => exact ⟨(wrap64 (x9_2 + 1)), (by first | rfl | (simp; done) | (simp [*]; done)), H', ⟨by have := HK1.out; have := HK2.out; omega⟩, ⟨by repeat (first | (with_reducible first | exact HI0.out | apply IsS92.alloc | apply IsS92.drewN | apply IsS92.drew | apply IsS92.set_1 | apply IsS92.set_2) | exact HI0.out)⟩, ⟨by repeat (first | (with_reducible first | exact HK.out | apply KeepBut.set_ | apply keep_drewN | apply keep_drew | apply keep_alloc) | exact HK.out)⟩, ⟨by repeat (first | (with_reducible first | exact HB.out | apply below_alloc | apply pw_below_drewN | apply below_drew1 | refine below_set ?_ (IsS92.ge HI0.out)) | exact HB.out)⟩⟩
                  · rw [if_neg c12] at H
                    have c12b0 : (((rd_T124 l1 x9_2).f0) == x7_1) = false := beq_eq_false_iff_ne.mpr c12
                    have c12b1 : (((rd_T124 l1 x9_2).f0) != x7_1) = true := bne_iff_ne.mpr c12
                    have H' := Aside0.mk H
                    clear H
                    have p118 : 0 ≤ (x9_2 : Int) := of_decide_eq_true (by first | (with_reducible assumption) | assumption)
                    have q118 : x9_2 < (l1.length : Int) := of_decide_eq_true (by first | (with_reducible assumption) | assumption)
                    obtain ⟨ad118, e118, hx118_0, hx118_1⟩ := at_T124 (Kd.C_foot_now HR1.out HK.out) x9_2 p118 q118
                    cases e118
                    replace p118 := eq_true p118
                    replace q118 := eq_true q118
                    go_wp2
                    go_roundg k2
                    case measure => have := HK1.out; have := HK2.out; omega
                    case rel => exact ⟨(wrap64 (x9_2 + 1)), (by first | rfl | (simp; done) | (simp [*]; done)), H', ⟨by have := HK1.out; have := HK2.out; omega⟩, ⟨by repeat (first | (with_reducible first | exact HI0.out | apply IsS92.alloc | apply IsS92.drewN | apply IsS92.drew | apply IsS92.set_1 | apply IsS92.set_2) | exact HI0.out)⟩, ⟨by repeat (first | (with_reducible first | exact HK.out | apply KeepBut.set_ | apply keep_drewN | apply keep_drew | apply keep_alloc) | exact HK.out)⟩, ⟨by repeat (first | (with_reducible first | exact HB.out | apply below_alloc | apply pw_below_drewN | apply below_drew1 | refine below_set ?_ (IsS92.ge HI0.out)) | exact HB.out)⟩⟩
                · rw [if_neg c11] at H
                  exact absurd H (by simp)
              · rw [if_neg c10] at H
                have c10b0 : decide (x9_2 < (l1.length : Int)) = false := decide_eq_false c10
                clear c10
                have H' := Aside0.mk H
                clear H
                go_wp2
                go_roundg k2
                case measure => have := HK1.out; have := HK2.out; omega
                case rel => exact ⟨((wrap64 ((wrap64 (2 * x6_1)) + t115))), (wrap64 (x7_1 + 1)), (t116), (false), (by first | rfl | (simp; done) | (simp [*]; done)), (by first | rfl | (simp; done) | (simp [*]; done)), H', ⟨by have := HK1.out; have := HK2.out; omega⟩, ⟨by repeat (first | (with_reducible first | exact HI0.out | apply IsS92.alloc | apply IsS92.drewN | apply IsS92.drew | apply IsS92.set_1 | apply IsS92.set_2) | exact HI0.out)⟩, ⟨by repeat (first | (with_reducible first | exact HK.out | apply KeepBut.set_ | apply keep_drewN | apply keep_drew | apply keep_alloc) | exact HK.out)⟩, ⟨by repeat (first | (with_reducible first | exact HB.out | apply below_alloc | apply pw_below_drewN | apply below_drew1 | refine below_set ?_ (IsS92.ge HI0.out)) | exact HB.out)⟩⟩
      · rw [if_neg c3] at H
        have c3b0 : decide (x7_1 ≤ 16) = false := decide_eq_false c3
        clear c3
        simp only [Option.some.injEq, Prod.mk.injEq] at H
        obtain ⟨rfl, rfl, rfl, rfl⟩ := H
        go_wp2
        go_ret2
        exact ⟨by first | rfl | (simp [errW_none, errW_some] <;> rfl) | (simp [*, errW_none, errW_some] <;> rfl), by repeat (first | (with_reducible first | exact HI0.out | apply IsS92.alloc | apply IsS92.drewN | apply IsS92.drew | apply IsS92.set_1 | apply IsS92.set_2) | exact HI0.out), by repeat (first | (with_reducible first | exact HB.out | apply below_alloc | apply pw_below_drewN | apply below_drew1 | refine below_set ?_ (IsS92.ge HI0.out)) | exact HB.out), by repeat (first | (with_reducible first | exact HK.out | apply KeepBut.set_ | apply keep_drewN | apply keep_drew | apply keep_alloc) | exact HK.out)⟩

theorem firstS_min {codes : List S124} {a b : Int} {n s : Nat} (h : firstS codes a b n = some s) : ∀ t, t < s → ¬ ((codes.getD t z124).f0 = a ∧ (codes.getD t z124).f1 = b) := by
  induction n with
  | zero => simp [firstS] at h
  | succ n ih =>
    simp only [firstS] at h
    split at h
    · rename_i u hu
      cases h
      exact ih hu
    · rename_i hn
      split at h
      · cases h
        exact firstS_none hn
      · cases h
theorem firstS_at {codes : List S124} {a b : Int} {n i : Nat} (hi : i < n) (h1 : ∀ t, t < i → ¬ ((codes.getD t z124).f0 = a ∧ (codes.getD t z124).f1 = b)) (h2 : (codes.getD i z124).f0 = a ∧ (codes.getD i z124).f1 = b) : firstS codes a b n = some i := by
  cases hf : firstS codes a b n with
  | none => exact absurd h2 (firstS_none hf i hi)
  | some s =>
    have hs := firstS_some hf
    have hm := firstS_min hf
    have : s = i := by
      by_cases e : s < i
      · exact absurd hs.2 (h1 s e)
      · by_cases e2 : i < s
        · exact absurd h2 (hm i e2)
        · omega
    rw [this]
theorem spec_l08Symbol.ev (codes : List S124) (b : List Int) (hb : ∀ x ∈ b, 0 ≤ x ∧ x ≤ 255) (hl : b.length ≤ 1048576) (hn : codes.length ≤ 1048576) (p : Nat) (hp : p ≤ 8 * b.length) :
    (∀ s q, symM codes b 16 0 0 p = some (s, q) → Ev (fun k => spec_l08Symbol.f k b (p : Int) false codes) ((s : Int), true, (q : Int), false)) ∧
    (symM codes b 16 0 0 p = none → ∃ r3 r4, Ev (fun k => spec_l08Symbol.f k b (p : Int) false codes) (0, false, r3, r4)) := by
  have search : ∀ (l : Nat) (x : Int) (p : Nat) (R : Int × Bool × Int × Bool), 1 ≤ l → l ≤ 16 → (∀ s, firstS codes l x codes.length = some s → R = ((s : Int), true, (p : Int), false)) →
      (firstS codes l x codes.length = none → Ev (fun k => spec_l08Symbol.l0 k codes x (((l + 1 : Nat) : Int)) b (p : Int) false) R) →
      ∀ d i : Nat, codes.length - i = d → i ≤ codes.length → (∀ t, t < i → ¬ ((codes.getD t z124).f0 = l ∧ (codes.getD t z124).f1 = x)) → Ev (fun k => spec_l08Symbol.l1 k codes x (l : Int) (i : Int) b (p : Int) false) R := by
    intro l x p R h1 h16 hs hnone d
    induction d with
    | zero =>
      intro i hd hi hno
      refine Ev.step (fun _ => by rw [spec_l08Symbol.l1]) (Ev.ng (by omega) ?_)
      rw [wrap_succ l (by omega)]
      refine hnone ?_
      cases hf : firstS codes l x codes.length with
      | none => rfl
      | some s =>
        have := firstS_some hf
        exact absurd this.2 (hno s (by omega))
    | succ d ih =>
      intro i hd hi hno
      have hlt : i < codes.length := by omega
      refine Ev.step (fun _ => by rw [spec_l08Symbol.l1]) (Ev.ip (by omega) (Ev.ip (by omega) ?_))
      have e : rd_T124 codes (i : Int) = codes.getD i z124 := by simp [rd_T124]
      rw [e, wrap_succ i (by omega)]
      by_cases ha : (codes.getD i z124).f0 = l
      · refine Ev.ip ha ?_
        by_cases hx : (codes.getD i z124).f1 = x
        · refine Ev.ip hx (Ev.eq (Ev.now _) ?_)
          exact (hs i (firstS_at hlt hno ⟨ha, hx⟩)).symm
        · refine Ev.ng hx (ih (i + 1) (by omega) (by omega) (fun t ht => ?_))
          by_cases e : t = i
          · rw [e]; exact fun h => hx h.2
          · exact hno t (by omega)
      · refine Ev.ng ha (ih (i + 1) (by omega) (by omega) (fun t ht => ?_))
        by_cases e : t = i
        · rw [e]; exact fun h => ha h.1
        · exact hno t (by omega)
  have key : ∀ (e l : Nat) (x : Int) (p : Nat), 17 - l = e → 1 ≤ l → l ≤ 17 → p ≤ 8 * b.length → 0 ≤ x → x < 2 ^ (l - 1) →
      (∀ s q, symM codes b (17 - l) ((l : Int) - 1) x p = some (s, q) → Ev (fun k => spec_l08Symbol.l0 k codes x (l : Int) b (p : Int) false) ((s : Int), true, (q : Int), false)) ∧
      (symM codes b (17 - l) ((l : Int) - 1) x p = none → ∃ r3 r4, Ev (fun k => spec_l08Symbol.l0 k codes x (l : Int) b (p : Int) false) (0, false, r3, r4)) := by
    intro e
    induction e with
    | zero =>
      intro l x p he h1 h2 hp h0 hx
      obtain rfl : l = 17 := by omega
      refine ⟨fun s q h => by simp [symM] at h, fun _ => ⟨_, _, Ev.step (fun _ => by rw [spec_l08Symbol.l0]) (Ev.ng (by omega) (Ev.now _))⟩⟩
    | succ e ih =>
      intro l x p he h1 h2 hp h0 hx
      have hpw := pow_cast (l - 1) 32768 (Nat.le_trans (Nat.pow_le_pow_right (n := 2) (by decide) (show l - 1 ≤ 15 by omega)) (by decide))
      have hx1 : x ≤ 32767 := by omega
      rw [he]
      simp only [symM]
      rw [show (l : Int) - 1 + 1 = l by omega]
      by_cases hlt : p < 8 * b.length
      · rw [if_pos hlt]
        have hbit := bitAt_01 b p
        have hpw2 : (2 : Int) ^ (l + 1 - 1) = 2 * 2 ^ (l - 1) := by rw [show l + 1 - 1 = (l - 1) + 1 by omega, Int.pow_succ]; omega
        obtain ⟨i1, i2⟩ := ih (l + 1) (2 * x + bitAt b p) (p + 1) (by omega) (by omega) (by omega) (by omega) (by omega) (by rw [hpw2]; omega)
        rw [show 17 - (l + 1) = e by omega, show (((l + 1 : Nat) : Int)) - 1 = l by omega] at i1 i2
        have first : ∀ R, Ev (fun k => spec_l08Symbol.l1 k codes (2 * x + bitAt b p) (l : Int) 0 b ((p + 1 : Nat) : Int) false) R → Ev (fun k => spec_l08Symbol.l0 k codes x (l : Int) b (p : Int) false) R := by
          intro R hR
          refine Ev.step (fun _ => by rw [spec_l08Symbol.l0]) (Ev.ip (by omega) (Ev.bind (Ev.c (spec_l01Take_bit.val b hb hl p false)) ?_))
          rw [if_pos hlt, wrap_in (2 * x) (by omega) (by omega), wrap_in _ (by simp only []; omega) (by simp only []; omega)]
          exact Ev.ng (by simp) hR
        cases hf : firstS codes (l : Int) (2 * x + bitAt b p) codes.length with
        | some s =>
          refine ⟨fun s' q h => ?_, fun h => by simp at h⟩
          simp only [Option.some.injEq, Prod.mk.injEq] at h
          obtain ⟨rfl, rfl⟩ := h
          refine first _ (search l _ (p + 1) _ h1 (by omega) (fun t ht => ?_) (fun hn => ?_) _ 0 rfl (by omega) (fun t ht => by omega))
          · rw [hf] at ht; cases ht; rfl
          · rw [hf] at hn; cases hn
        | none =>
          refine ⟨fun s' q h => ?_, fun h => ?_⟩
          · exact first _ (search l _ (p + 1) _ h1 (by omega) (fun t ht => by rw [hf] at ht; cases ht) (fun _ => i1 s' q h) _ 0 rfl (by omega) (fun t ht => by omega))
          · obtain ⟨r3, r4, hr⟩ := i2 h
            exact ⟨r3, r4, first _ (search l _ (p + 1) _ h1 (by omega) (fun t ht => by rw [hf] at ht; cases ht) (fun _ => hr) _ 0 rfl (by omega) (fun t ht => by omega))⟩
      · rw [if_neg hlt]
        refine ⟨fun s q h => (by cases h), fun _ => ⟨(p : Int), true, ?_⟩⟩
        refine Ev.step (fun _ => by rw [spec_l08Symbol.l0]) (Ev.ip (by omega) (Ev.bind (Ev.c (spec_l01Take_bit.val b hb hl p false)) ?_))
        rw [if_neg hlt]
        exact Ev.ip rfl (Ev.now _)
  exact key 16 1 0 p rfl (by omega) (by omega) hp (by omega) (by decide)

end Go.Proofs.Ytcjjmfpkhhdmlaa.G
