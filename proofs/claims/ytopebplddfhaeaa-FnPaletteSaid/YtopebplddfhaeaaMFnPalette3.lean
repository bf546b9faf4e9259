import Derived.BigRegion
import Derived.Deep.CutBlock
import Derived.Deep.CutRange
import Derived.Deep.LoopGhost
import Derived.Deep.DeepCutAuto
import Derived.Test.YtopebplddfhaeaaMFnPalette2
set_option linter.unusedVariables false
set_option linter.unusedSimpArgs false
namespace Go.Proofs.Ytopebplddfhaeaa.G
open Go.RowKit Go.Proofs.YtopebplddfhaeaaW.PrintWords Go.Proofs.YtopebplddfhaeaaW.PrintLast Go.Proofs.YtopebplddfhaeaaW.PrintMore
attribute [local go_sem] max2_int min2_int max_two min_two max_three min_three max_four min_four   -- for this text's walks alone
/-! ### spec_l21Wide: function 46 -/
mutual
def spec_l21Wide.l0 : Nat → List (List Int) → Int → Int → Int → Option (Int × Int)
  | 0, _, _, _, _ => none
  | k + 1, x0, x4, x5, x6 => if x6 < 3 then (spec_l21Wide.l1 k x0 x4 x5 x6 255 0 0) else (some (x4, x5))
def spec_l21Wide.l1 : Nat → List (List Int) → Int → Int → Int → Int → Int → Int → Option (Int × Int)
  | 0, _, _, _, _, _, _, _ => none
  | k + 1, x0, x4, x5, x6, x7, x8, x9 => if x9 < (x0.length : Int) then (if 0 ≤ x9 then (if 0 ≤ x6 then (if x6 < ((rd_L2 x0 x9).length : Int) then (if (rd (rd_L2 x0 x9) x6) < x7 then (if (rd (rd_L2 x0 x9) x6) > x8 then (spec_l21Wide.l1 k x0 x4 x5 x6 (rd (rd_L2 x0 x9) x6) (rd (rd_L2 x0 x9) x6) (wrap64 (x9 + 1))) else (spec_l21Wide.l1 k x0 x4 x5 x6 (rd (rd_L2 x0 x9) x6) x8 (wrap64 (x9 + 1)))) else (if (rd (rd_L2 x0 x9) x6) > x8 then (spec_l21Wide.l1 k x0 x4 x5 x6 x7 (rd (rd_L2 x0 x9) x6) (wrap64 (x9 + 1))) else (spec_l21Wide.l1 k x0 x4 x5 x6 x7 x8 (wrap64 (x9 + 1))))) else (none)) else (none)) else (none)) else (if (wrap64 (x8 - x7)) > x4 then (spec_l21Wide.l0 k x0 (wrap64 (x8 - x7)) x6 (wrap64 (x6 + 1))) else (spec_l21Wide.l0 k x0 x4 x5 (wrap64 (x6 + 1))))
end
def spec_l21Wide.f (k : Nat) (l0 : List (List Int)) : Option (Int × Int) := spec_l21Wide.l0 k l0 0 0 0
theorem spec_l21Wide.mono_l : ∀ k, (∀ y0 y1 y2 y3, LeO (spec_l21Wide.l0 k y0 y1 y2 y3) (spec_l21Wide.l0 (k + 1) y0 y1 y2 y3)) ∧ (∀ y0 y1 y2 y3 y4 y5 y6, LeO (spec_l21Wide.l1 k y0 y1 y2 y3 y4 y5 y6) (spec_l21Wide.l1 (k + 1) y0 y1 y2 y3 y4 y5 y6))
  | 0 => ⟨fun _ _ _ _ r h => by simp [spec_l21Wide.l0] at h, fun _ _ _ _ _ _ _ r h => by simp [spec_l21Wide.l1] at h⟩
  | k + 1 => by
    obtain ⟨ih0, ih1⟩ := spec_l21Wide.mono_l k
    refine ⟨?_, ?_⟩
    · intro y0 y1 y2 y3
      unfold spec_l21Wide.l0
      repeat' first
      | (with_reducible exact ih0 _ _ _ _)
      | (with_reducible exact ih1 _ _ _ _ _ _ _)
      | (with_reducible exact LeO.refl _)
      | (with_reducible exact LeO.none _)
      | (with_reducible refine LeO.ite ?_ ?_)
      | (with_reducible refine LeO.bind ?_ (fun _ => ?_))
      | exact ih0 _ _ _ _
      | exact ih1 _ _ _ _ _ _ _
      | exact LeO.none _
      | refine LeO.ite ?_ ?_
      | refine LeO.bind ?_ (fun _ => ?_)
    · intro y0 y1 y2 y3 y4 y5 y6
      unfold spec_l21Wide.l1
      repeat' first
      | (with_reducible exact ih0 _ _ _ _)
      | (with_reducible exact ih1 _ _ _ _ _ _ _)
      | (with_reducible exact LeO.refl _)
      | (with_reducible exact LeO.none _)
      | (with_reducible refine LeO.ite ?_ ?_)
      | (with_reducible refine LeO.bind ?_ (fun _ => ?_))
      | exact ih0 _ _ _ _
      | exact ih1 _ _ _ _ _ _ _
      | exact LeO.none _
      | refine LeO.ite ?_ ?_
      | refine LeO.bind ?_ (fun _ => ?_)
theorem spec_l21Wide.mono : ∀ a0 k, LeO (spec_l21Wide.f k a0) (spec_l21Wide.f (k + 1) a0) := by
  intro a0 k
  obtain ⟨ih0, ih1⟩ := spec_l21Wide.mono_l k
  unfold spec_l21Wide.f
  repeat' first
      | (with_reducible exact ih0 _ _ _ _)
      | (with_reducible exact ih1 _ _ _ _ _ _ _)
      | (with_reducible exact LeO.refl _)
      | (with_reducible exact LeO.none _)
      | (with_reducible refine LeO.ite ?_ ?_)
      | (with_reducible refine LeO.bind ?_ (fun _ => ?_))
      | exact ih0 _ _ _ _
      | exact ih1 _ _ _ _ _ _ _
      | exact LeO.none _
      | refine LeO.ite ?_ ?_
      | refine LeO.bind ?_ (fun _ => ?_)
set_option maxHeartbeats 8000000 in
set_option maxRecDepth 100000 in
theorem spec_l21Wide.calls (k : Nat) (A0 : Option Addr) (c0 : Nat) (l0 : List (List Int)) (r1 : Int) (r2 : Int) (w : World) (hr0 : Kd.C (Kd.slice 3 (Kd.int .i64)) w A0 l0.length l0) (hc0 : l0.length ≤ c0) (h : spec_l21Wide.f k l0 = some (r1, r2)) :
    Calls Try.prog 46 #[.slice A0 l0.length c0] w fun e w' => e = .returned (.tuple #[.int .i64 r1, .int .i64 r2]) ∧ Drawn0 w w' := by
  have HR0 := Aside0.mk hr0
  have HC0 := Aside0.mk hc0
  clear hr0 hc0
  have H : (spec_l21Wide.l0 k l0 0 0 0) = some (r1, r2) := h
  clear h
  have H' := Aside0.mk H
  clear H
  go_enter Try.func46, Try.ntmps46
  go_wp2
  go_loopg [4, 5, 6] k (fun kq v4 v5 v6 w' => ∃ (x4_1 : Int) (x5_1 : Int) (x6_1 : Int), v4 = .int .i64 x4_1 ∧ v5 = .int .i64 x5_1 ∧ v6 = .int .i64 x6_1 ∧ Aside0 (spec_l21Wide.l0 kq l0 x4_1 x5_1 x6_1 = some (r1, r2)) ∧ Aside0 (kq ≤ k) ∧ Drawn0 w w')
  case atStart => exact ⟨(0), (0), (0), (by first | rfl | (simp; done) | (simp [*]; done)), (by first | rfl | (simp; done) | (simp [*]; done)), (by first | rfl | (simp; done) | (simp [*]; done)), H', ⟨Nat.le_refl _⟩, by repeat (first | exact Drawn0.refl _ | apply Drawn0.step)⟩
  case round =>
    clear H'
    obtain ⟨x4_1, x5_1, x6_1, rfl, rfl, rfl, HA, HK1, ⟨m1, rfl⟩⟩ := hrel
    cases gk with
    | zero => exact absurd HA.out (by simp [spec_l21Wide.l0])
    | succ k1 =>
      have H := HA.out
      clear HA
      simp only [spec_l21Wide.l0] at H
      by_cases c2 : x6_1 < 3
      · rw [if_pos c2] at H
        have c2b0 : decide (x6_1 < 3) = true := decide_eq_true c2
        clear c2
        have H' := Aside0.mk H
        clear H
        go_wp2
        go_loopg [7, 8, 9] k1 (fun kq v7 v8 v9 w' => ∃ (x7_2 : Int) (x8_2 : Int) (x9_2 : Int), v7 = .int .i64 x7_2 ∧ v8 = .int .i64 x8_2 ∧ v9 = .int .i64 x9_2 ∧ Aside0 (spec_l21Wide.l1 kq l0 x4_1 x5_1 x6_1 x7_2 x8_2 x9_2 = some (r1, r2)) ∧ Aside0 (kq ≤ k1) ∧ Drawn0 w w')
        case atStart => exact ⟨(255), (0), (0), (by first | rfl | (simp; done) | (simp [*]; done)), (by first | rfl | (simp; done) | (simp [*]; done)), (by first | rfl | (simp; done) | (simp [*]; done)), H', ⟨Nat.le_refl _⟩, by repeat (first | exact Drawn0.refl _ | apply Drawn0.step)⟩
        case round =>
          clear H'
          try clear c2
          try clear c2b0
          try clear p2
          obtain ⟨x7_2, x8_2, x9_2, rfl, rfl, rfl, HA, HK2, ⟨m2, rfl⟩⟩ := hrel
          cases gk with
          | zero => exact absurd HA.out (by simp [spec_l21Wide.l1])
          | succ k2 =>
            have H := HA.out
            clear HA
            simp only [spec_l21Wide.l1] at H
            by_cases c3 : x9_2 < (l0.length : Int)
            · rw [if_pos c3] at H
              have c3b0 : decide (x9_2 < (l0.length : Int)) = true := decide_eq_true c3
              clear c3
              by_cases c4 : 0 ≤ x9_2
              · rw [if_pos c4] at H
                have c4b0 : decide (0 ≤ x9_2) = true := decide_eq_true c4
                clear c4
                by_cases c5 : 0 ≤ x6_1
                · rw [if_pos c5] at H
                  have c5b0 : decide (0 ≤ x6_1) = true := decide_eq_true c5
                  clear c5
                  by_cases c6 : x6_1 < ((rd_L2 l0 x9_2).length : Int)
                  · rw [if_pos c6] at H
                    have c6b0 : decide (x6_1 < ((rd_L2 l0 x9_2).length : Int)) = true := decide_eq_true c6
                    clear c6
                    by_cases c7 : (rd (rd_L2 l0 x9_2) x6_1) < x7_2
                    · rw [if_pos c7] at H
                      have c7b0 : decide ((rd (rd_L2 l0 x9_2) x6_1) < x7_2) = true := decide_eq_true c7
                      clear c7
                      by_cases c8 : (rd (rd_L2 l0 x9_2) x6_1) > x8_2
                      · rw [if_pos c8] at H
                        have c8b0 : decide (x8_2 < (rd (rd_L2 l0 x9_2) x6_1)) = true := decide_eq_true c8
                        clear c8
                        have H' := Aside0.mk H
                        clear H
                        have p107 : 0 ≤ (x9_2 : Int) := of_decide_eq_true (by first | (with_reducible assumption) | assumption)
                        have q107 : x9_2 < (l0.length : Int) := of_decide_eq_true (by first | (with_reducible assumption) | assumption)
                        obtain ⟨ad107, A107_0, c107_0, e107, hx107_0, hl107_0, hi107_0⟩ := at_L2 HR0.out x9_2 p107 q107
                        cases e107
                        have HR107_0 := Aside0.mk hi107_0
                        have HC107_0 := Aside0.mk hl107_0
                        clear hi107_0 hl107_0
                        replace p107 := eq_true p107
                        replace q107 := eq_true q107
                        have p108 : 0 ≤ (x6_1 : Int) := of_decide_eq_true (by first | (with_reducible assumption) | assumption)
                        have q108 : x6_1 < ((rd_L2 l0 x9_2).length : Int) := of_decide_eq_true (by first | (with_reducible assumption) | assumption)
                        obtain ⟨ad108, e108, hx108_0⟩ := Kd.at_int HR107_0.out x6_1 p108 q108
                        cases e108
                        replace p108 := eq_true p108
                        replace q108 := eq_true q108
                        have p109 : 0 ≤ (x9_2 : Int) := of_decide_eq_true (by first | (with_reducible assumption) | assumption)
                        have q109 : x9_2 < (l0.length : Int) := of_decide_eq_true (by first | (with_reducible assumption) | assumption)
                        obtain ⟨ad109, A109_0, c109_0, e109, hx109_0, hl109_0, hi109_0⟩ := at_L2 HR0.out x9_2 p109 q109
                        obtain rfl : ad107 = ad109 := (by injection e109)
                        have HR109_0 := Aside0.mk hi109_0
                        have HC109_0 := Aside0.mk hl109_0
                        clear hi109_0 hl109_0
                        replace p109 := eq_true p109
                        replace q109 := eq_true q109
                        have ea_ := Option.some.inj (hx107_0.symm.trans hx109_0)
                        injection ea_ with ea_ en_ ec_
                        subst ea_
                        subst ec_
                        clear en_
                        have p110 : 0 ≤ (x6_1 : Int) := of_decide_eq_true (by first | (with_reducible assumption) | assumption)
                        have q110 : x6_1 < ((rd_L2 l0 x9_2).length : Int) := of_decide_eq_true (by first | (with_reducible assumption) | assumption)
                        obtain ⟨ad110, e110, hx110_0⟩ := Kd.at_int HR109_0.out x6_1 p110 q110
                        cases e110
                        replace p110 := eq_true p110
                        replace q110 := eq_true q110
                        have p111 : 0 ≤ (x9_2 : Int) := of_decide_eq_true (by first | (with_reducible assumption) | assumption)
                        have q111 : x9_2 < (l0.length : Int) := of_decide_eq_true (by first | (with_reducible assumption) | assumption)
                        obtain ⟨ad111, A111_0, c111_0, e111, hx111_0, hl111_0, hi111_0⟩ := at_L2 HR0.out x9_2 p111 q111
                        obtain rfl : ad107 = ad111 := (by injection e111)
                        have HR111_0 := Aside0.mk hi111_0
                        have HC111_0 := Aside0.mk hl111_0
                        clear hi111_0 hl111_0
                        replace p111 := eq_true p111
                        replace q111 := eq_true q111
                        have ea_ := Option.some.inj (hx107_0.symm.trans hx111_0)
                        injection ea_ with ea_ en_ ec_
                        subst ea_
                        subst ec_
                        clear en_
                        have p112 : 0 ≤ (x6_1 : Int) := of_decide_eq_true (by first | (with_reducible assumption) | assumption)
                        have q112 : x6_1 < ((rd_L2 l0 x9_2).length : Int) := of_decide_eq_true (by first | (with_reducible assumption) | assumption)
                        obtain ⟨ad112, e112, hx112_0⟩ := Kd.at_int HR111_0.out x6_1 p112 q112
                        cases e112
                        replace p112 := eq_true p112
                        replace q112 := eq_true q112
                        have p113 : 0 ≤ (x9_2 : Int) := of_decide_eq_true (by first | (with_reducible assumption) | assumption)
                        have q113 : x9_2 < (l0.length : Int) := of_decide_eq_true (by first | (with_reducible assumption) | assumption)
                        obtain ⟨ad113, A113_0, c113_0, e113, hx113_0, hl113_0, hi113_0⟩ := at_L2 HR0.out x9_2 p113 q113
                        obtain rfl : ad107 = ad113 := (by injection e113)
                        have HR113_0 := Aside0.mk hi113_0
                        have HC113_0 := Aside0.mk hl113_0
                        clear hi113_0 hl113_0
                        replace p113 := eq_true p113
                        replace q113 := eq_true q113
                        have ea_ := Option.some.inj (hx107_0.symm.trans hx113_0)
                        injection ea_ with ea_ en_ ec_
                        subst ea_
                        subst ec_
                        clear en_
                        have p114 : 0 ≤ (x6_1 : Int) := of_decide_eq_true (by first | (with_reducible assumption) | assumption)
                        have q114 : x6_1 < ((rd_L2 l0 x9_2).length : Int) := of_decide_eq_true (by first | (with_reducible assumption) | assumption)
                        obtain ⟨ad114, e114, hx114_0⟩ := Kd.at_int HR113_0.out x6_1 p114 q114
                        cases e114
                        replace p114 := eq_true p114
                        replace q114 := eq_true q114
                        go_wp2
                        go_roundg k2
                        case measure => have := HK1.out; have := HK2.out; omega
                        case rel => exact ⟨(rd (rd_L2 l0 x9_2) x6_1), (rd (rd_L2 l0 x9_2) x6_1), (wrap64 (x9_2 + 1)), (by first | rfl | (simp; done) | (simp [*]; done)), (by first | rfl | (simp; done) | (simp [*]; done)), (by first | rfl | (simp; done) | (simp [*]; done)), H', ⟨by have := HK1.out; have := HK2.out; omega⟩, by repeat (first | exact Drawn0.refl _ | apply Drawn0.step)⟩
                      · rw [if_neg c8] at H
                        have c8b0 : decide (x8_2 < (rd (rd_L2 l0 x9_2) x6_1)) = false := decide_eq_false c8
                        clear c8
                        have H' := Aside0.mk H
                        clear H
                        have p107 : 0 ≤ (x9_2 : Int) := of_decide_eq_true (by first | (with_reducible assumption) | assumption)
                        have q107 : x9_2 < (l0.length : Int) := of_decide_eq_true (by first | (with_reducible assumption) | assumption)
                        obtain ⟨ad107, A107_0, c107_0, e107, hx107_0, hl107_0, hi107_0⟩ := at_L2 HR0.out x9_2 p107 q107
                        cases e107
                        have HR107_0 := Aside0.mk hi107_0
                        have HC107_0 := Aside0.mk hl107_0
                        clear hi107_0 hl107_0
                        replace p107 := eq_true p107
                        replace q107 := eq_true q107
                        have p108 : 0 ≤ (x6_1 : Int) := of_decide_eq_true (by first | (with_reducible assumption) | assumption)
                        have q108 : x6_1 < ((rd_L2 l0 x9_2).length : Int) := of_decide_eq_true (by first | (with_reducible assumption) | assumption)
                        obtain ⟨ad108, e108, hx108_0⟩ := Kd.at_int HR107_0.out x6_1 p108 q108
                        cases e108
                        replace p108 := eq_true p108
                        replace q108 := eq_true q108
                        have p109 : 0 ≤ (x9_2 : Int) := of_decide_eq_true (by first | (with_reducible assumption) | assumption)
                        have q109 : x9_2 < (l0.length : Int) := of_decide_eq_true (by first | (with_reducible assumption) | assumption)
                        obtain ⟨ad109, A109_0, c109_0, e109, hx109_0, hl109_0, hi109_0⟩ := at_L2 HR0.out x9_2 p109 q109
                        obtain rfl : ad107 = ad109 := (by injection e109)
                        have HR109_0 := Aside0.mk hi109_0
                        have HC109_0 := Aside0.mk hl109_0
                        clear hi109_0 hl109_0
                        replace p109 := eq_true p109
                        replace q109 := eq_true q109
                        have ea_ := Option.some.inj (hx107_0.symm.trans hx109_0)
                        injection ea_ with ea_ en_ ec_
                        subst ea_
                        subst ec_
                        clear en_
                        have p110 : 0 ≤ (x6_1 : Int) := of_decide_eq_true (by first | (with_reducible assumption) | assumption)
                        have q110 : x6_1 < ((rd_L2 l0 x9_2).length : Int) := of_decide_eq_true (by first | (with_reducible assumption) | assumption)
                        obtain ⟨ad110, e110, hx110_0⟩ := Kd.at_int HR109_0.out x6_1 p110 q110
                        cases e110
                        replace p110 := eq_true p110
                        replace q110 := eq_true q110
                        have p111 : 0 ≤ (x9_2 : Int) := of_decide_eq_true (by first | (with_reducible assumption) | assumption)
                        have q111 : x9_2 < (l0.length : Int) := of_decide_eq_true (by first | (with_reducible assumption) | assumption)
                        obtain ⟨ad111, A111_0, c111_0, e111, hx111_0, hl111_0, hi111_0⟩ := at_L2 HR0.out x9_2 p111 q111
                        obtain rfl : ad107 = ad111 := (by injection e111)
                        have HR111_0 := Aside0.mk hi111_0
                        have HC111_0 := Aside0.mk hl111_0
                        clear hi111_0 hl111_0
                        replace p111 := eq_true p111
                        replace q111 := eq_true q111
                        have ea_ := Option.some.inj (hx107_0.symm.trans hx111_0)
                        injection ea_ with ea_ en_ ec_
                        subst ea_
                        subst ec_
                        clear en_
                        have p112 : 0 ≤ (x6_1 : Int) := of_decide_eq_true (by first | (with_reducible assumption) | assumption)
                        have q112 : x6_1 < ((rd_L2 l0 x9_2).length : Int) := of_decide_eq_true (by first | (with_reducible assumption) | assumption)
                        obtain ⟨ad112, e112, hx112_0⟩ := Kd.at_int HR111_0.out x6_1 p112 q112
                        cases e112
                        replace p112 := eq_true p112
                        replace q112 := eq_true q112
                        go_wp2
                        go_roundg k2
                        case measure => have := HK1.out; have := HK2.out; omega
                        case rel => exact ⟨(rd (rd_L2 l0 x9_2) x6_1), (x8_2), (wrap64 (x9_2 + 1)), (by first | rfl | (simp; done) | (simp [*]; done)), (by first | rfl | (simp; done) | (simp [*]; done)), (by first | rfl | (simp; done) | (simp [*]; done)), H', ⟨by have := HK1.out; have := HK2.out; omega⟩, by repeat (first | exact Drawn0.refl _ | apply Drawn0.step)⟩
                    · rw [if_neg c7] at H
                      have c7b0 : decide ((rd (rd_L2 l0 x9_2) x6_1) < x7_2) = false := decide_eq_false c7
                      clear c7
                      by_cases c9 : (rd (rd_L2 l0 x9_2) x6_1) > x8_2
                      · rw [if_pos c9] at H
                        have c9b0 : decide (x8_2 < (rd (rd_L2 l0 x9_2) x6_1)) = true := decide_eq_true c9
                        clear c9
                        have H' := Aside0.mk H
                        clear H
                        have p107 : 0 ≤ (x9_2 : Int) := of_decide_eq_true (by first | (with_reducible assumption) | assumption)
                        have q107 : x9_2 < (l0.length : Int) := of_decide_eq_true (by first | (with_reducible assumption) | assumption)
                        obtain ⟨ad107, A107_0, c107_0, e107, hx107_0, hl107_0, hi107_0⟩ := at_L2 HR0.out x9_2 p107 q107
                        cases e107
                        have HR107_0 := Aside0.mk hi107_0
                        have HC107_0 := Aside0.mk hl107_0
                        clear hi107_0 hl107_0
                        replace p107 := eq_true p107
                        replace q107 := eq_true q107
                        have p108 : 0 ≤ (x6_1 : Int) := of_decide_eq_true (by first | (with_reducible assumption) | assumption)
                        have q108 : x6_1 < ((rd_L2 l0 x9_2).length : Int) := of_decide_eq_true (by first | (with_reducible assumption) | assumption)
                        obtain ⟨ad108, e108, hx108_0⟩ := Kd.at_int HR107_0.out x6_1 p108 q108
                        cases e108
                        replace p108 := eq_true p108
                        replace q108 := eq_true q108
                        have p115 : 0 ≤ (x9_2 : Int) := of_decide_eq_true (by first | (with_reducible assumption) | assumption)
                        have q115 : x9_2 < (l0.length : Int) := of_decide_eq_true (by first | (with_reducible assumption) | assumption)
                        obtain ⟨ad115, A115_0, c115_0, e115, hx115_0, hl115_0, hi115_0⟩ := at_L2 HR0.out x9_2 p115 q115
                        obtain rfl : ad107 = ad115 := (by injection e115)
                        have HR115_0 := Aside0.mk hi115_0
                        have HC115_0 := Aside0.mk hl115_0
                        clear hi115_0 hl115_0
                        replace p115 := eq_true p115
                        replace q115 := eq_true q115
                        have ea_ := Option.some.inj (hx107_0.symm.trans hx115_0)
                        injection ea_ with ea_ en_ ec_
                        subst ea_
                        subst ec_
                        clear en_
                        have p116 : 0 ≤ (x6_1 : Int) := of_decide_eq_true (by first | (with_reducible assumption) | assumption)
                        have q116 : x6_1 < ((rd_L2 l0 x9_2).length : Int) := of_decide_eq_true (by first | (with_reducible assumption) | assumption)
                        obtain ⟨ad116, e116, hx116_0⟩ := Kd.at_int HR115_0.out x6_1 p116 q116
                        cases e116
                        replace p116 := eq_true p116
                        replace q116 := eq_true q116
                        have p117 : 0 ≤ (x9_2 : Int) := of_decide_eq_true (by first | (with_reducible assumption) | assumption)
                        have q117 : x9_2 < (l0.length : Int) := of_decide_eq_true (by first | (with_reducible assumption) | assumption)
                        obtain ⟨ad117, A117_0, c117_0, e117, hx117_0, hl117_0, hi117_0⟩ := at_L2 HR0.out x9_2 p117 q117
                        obtain rfl : ad107 = ad117 := (by injection e117)
                        have HR117_0 := Aside0.mk hi117_0
                        have HC117_0 := Aside0.mk hl117_0
                        clear hi117_0 hl117_0
                        replace p117 := eq_true p117
                        replace q117 := eq_true q117
                        have ea_ := Option.some.inj (hx107_0.symm.trans hx117_0)
                        injection ea_ with ea_ en_ ec_
                        subst ea_
                        subst ec_
                        clear en_
                        have p118 : 0 ≤ (x6_1 : Int) := of_decide_eq_true (by first | (with_reducible assumption) | assumption)
                        have q118 : x6_1 < ((rd_L2 l0 x9_2).length : Int) := of_decide_eq_true (by first | (with_reducible assumption) | assumption)
                        obtain ⟨ad118, e118, hx118_0⟩ := Kd.at_int HR117_0.out x6_1 p118 q118
                        cases e118
                        replace p118 := eq_true p118
                        replace q118 := eq_true q118
                        go_wp2
                        go_roundg k2
                        case measure => have := HK1.out; have := HK2.out; omega
                        case rel => exact ⟨(x7_2), (rd (rd_L2 l0 x9_2) x6_1), (wrap64 (x9_2 + 1)), (by first | rfl | (simp; done) | (simp [*]; done)), (by first | rfl | (simp; done) | (simp [*]; done)), (by first | rfl | (simp; done) | (simp [*]; done)), H', ⟨by have := HK1.out; have := HK2.out; omega⟩, by repeat (first | exact Drawn0.refl _ | apply Drawn0.step)⟩
                      · rw [if_neg c9] at H
                        have c9b0 : decide (x8_2 < (rd (rd_L2 l0 x9_2) x6_1)) = false := decide_eq_false c9
                        clear c9
                        have H' := Aside0.mk H
                        clear H
                        have p107 : 0 ≤ (x9_2 : Int) := of_decide_eq_true (by first | (with_reducible assumption) | assumption)
                        have q107 : x9_2 < (l0.length : Int) := of_decide_eq_true (by first | (with_reducible assumption) | assumption)
                        obtain ⟨ad107, A107_0, c107_0, e107, hx107_0, hl107_0, hi107_0⟩ := at_L2 HR0.out x9_2 p107 q107
                        cases e107
                        have HR107_0 := Aside0.mk hi107_0
                        have HC107_0 := Aside0.mk hl107_0
                        clear hi107_0 hl107_0
                        replace p107 := eq_true p107
                        replace q107 := eq_true q107
                        have p108 : 0 ≤ (x6_1 : Int) := of_decide_eq_true (by first | (with_reducible assumption) | assumption)
                        have q108 : x6_1 < ((rd_L2 l0 x9_2).length : Int) := of_decide_eq_true (by first | (with_reducible assumption) | assumption)
                        obtain ⟨ad108, e108, hx108_0⟩ := Kd.at_int HR107_0.out x6_1 p108 q108
                        cases e108
                        replace p108 := eq_true p108
                        replace q108 := eq_true q108
                        have p115 : 0 ≤ (x9_2 : Int) := of_decide_eq_true (by first | (with_reducible assumption) | assumption)
                        have q115 : x9_2 < (l0.length : Int) := of_decide_eq_true (by first | (with_reducible assumption) | assumption)
                        obtain ⟨ad115, A115_0, c115_0, e115, hx115_0, hl115_0, hi115_0⟩ := at_L2 HR0.out x9_2 p115 q115
                        obtain rfl : ad107 = ad115 := (by injection e115)
                        have HR115_0 := Aside0.mk hi115_0
                        have HC115_0 := Aside0.mk hl115_0
                        clear hi115_0 hl115_0
                        replace p115 := eq_true p115
                        replace q115 := eq_true q115
                        have ea_ := Option.some.inj (hx107_0.symm.trans hx115_0)
                        injection ea_ with ea_ en_ ec_
                        subst ea_
                        subst ec_
                        clear en_
                        have p116 : 0 ≤ (x6_1 : Int) := of_decide_eq_true (by first | (with_reducible assumption) | assumption)
                        have q116 : x6_1 < ((rd_L2 l0 x9_2).length : Int) := of_decide_eq_true (by first | (with_reducible assumption) | assumption)
                        obtain ⟨ad116, e116, hx116_0⟩ := Kd.at_int HR115_0.out x6_1 p116 q116
                        cases e116
                        replace p116 := eq_true p116
                        replace q116 := eq_true q116
                        go_wp2
                        go_roundg k2
                        case measure => have := HK1.out; have := HK2.out; omega
                        case rel => exact ⟨(x7_2), (x8_2), (wrap64 (x9_2 + 1)), (by first | rfl | (simp; done) | (simp [*]; done)), (by first | rfl | (simp; done) | (simp [*]; done)), (by first | rfl | (simp; done) | (simp [*]; done)), H', ⟨by have := HK1.out; have := HK2.out; omega⟩, by repeat (first | exact Drawn0.refl _ | apply Drawn0.step)⟩
                  · rw [if_neg c6] at H
                    exact absurd H (by simp)
                · rw [if_neg c5] at H
                  exact absurd H (by simp)
              · rw [if_neg c4] at H
                exact absurd H (by simp)
            · rw [if_neg c3] at H
              have c3b0 : decide (x9_2 < (l0.length : Int)) = false := decide_eq_false c3
              clear c3
              by_cases c10 : (wrap64 (x8_2 - x7_2)) > x4_1
              · rw [if_pos c10] at H
                have c10b0 : decide (x4_1 < (wrap64 (x8_2 - x7_2))) = true := decide_eq_true c10
                clear c10
                have H' := Aside0.mk H
                clear H
                go_wp2
                go_roundg k2
                case measure => have := HK1.out; have := HK2.out; omega
                case rel => exact ⟨(wrap64 (x8_2 - x7_2)), (x6_1), (wrap64 (x6_1 + 1)), (by first | rfl | (simp; done) | (simp [*]; done)), (by first | rfl | (simp; done) | (simp [*]; done)), (by first | rfl | (simp; done) | (simp [*]; done)), H', ⟨by have := HK1.out; have := HK2.out; omega⟩, by repeat (first | exact Drawn0.refl _ | apply Drawn0.step)⟩
              · rw [if_neg c10] at H
                have c10b0 : decide (x4_1 < (wrap64 (x8_2 - x7_2))) = false := decide_eq_false c10
                clear c10
                have H' := Aside0.mk H
                clear H
                go_wp2
                go_roundg k2
                case measure => have := HK1.out; have := HK2.out; omega
                case rel => exact ⟨(x4_1), (x5_1), (wrap64 (x6_1 + 1)), (by first | rfl | (simp; done) | (simp [*]; done)), (by first | rfl | (simp; done) | (simp [*]; done)), (by first | rfl | (simp; done) | (simp [*]; done)), H', ⟨by have := HK1.out; have := HK2.out; omega⟩, by repeat (first | exact Drawn0.refl _ | apply Drawn0.step)⟩
      · rw [if_neg c2] at H
        have c2b0 : decide (x6_1 < 3) = false := decide_eq_false c2
        clear c2
        simp only [Option.some.injEq, Prod.mk.injEq] at H
        obtain ⟨rfl, rfl⟩ := H
        go_wp2
        go_ret2
        exact ⟨by first | rfl | (simp; done) | (simp [*]; done), by repeat (first | exact Drawn0.refl _ | apply Drawn0.step)⟩
theorem spec_l21Wide.ev (box : List (List Int)) (hp : ∀ px ∈ box, isPx px = true) (hl : box.length ≤ 1048576) : Ev (fun k => spec_l21Wide.f k box) (wideM box) := by
  unfold spec_l21Wide.f
  have inner : ∀ (j : Nat) (s : Int × Int) (R : Int × Int), j ≤ 2 → Ev (fun k => spec_l21Wide.l0 k box (wideStep box j s).1 (wideStep box j s).2 ((j + 1 : Nat) : Int)) R →
      ∀ d i : Nat, ∀ lo hi : Int, box.length - i = d → i ≤ box.length → lowJ j (box.drop i) lo = lowJ j box 255 → highJ j (box.drop i) hi = highJ j box 0 → Ev (fun k => spec_l21Wide.l1 k box s.1 s.2 (j : Int) lo hi (i : Int)) R := by
    intro j s R hj hn d
    have a1 := lowJ_in j (by omega) (by omega) box hp 255 (by omega) (by omega)
    have a2 := highJ_in j (by omega) (by omega) box hp 0 (by omega) (by omega)
    induction d with
    | zero =>
      intro i lo hi hd hi' h1 h2
      rw [List.drop_of_length_le (by omega)] at h1 h2
      simp only [lowJ, highJ] at h1 h2
      refine Ev.step (fun _ => by rw [spec_l21Wide.l1]) (Ev.ng (by omega) ?_)
      rw [h1, h2, wrap_in _ (by omega) (by omega), wrap_succ j (by omega)]
      unfold wideStep at hn
      by_cases hc : diffJ box j > s.1
      · rw [if_pos hc] at hn; exact Ev.ip hc hn
      · rw [if_neg hc] at hn; exact Ev.ng hc hn
    | succ d ih =>
      intro i lo hi hd hi' h1 h2
      have hlt : i < box.length := by omega
      have hx := px_rd (hp _ (List.getElem_mem hlt)) j (by omega) (by omega)
      rw [List.drop_eq_getElem_cons hlt] at h1 h2
      simp only [lowJ, highJ] at h1 h2
      have e : rd_L2 box (i : Int) = box[i] := by simp [rd_L2, hlt]
      refine Ev.step (fun _ => by rw [spec_l21Wide.l1]) (Ev.ip (by omega) (Ev.ip (by omega) (Ev.ip (by omega) ?_)))
      rw [e, wrap_succ i (by omega)]
      refine Ev.ip (by omega) ?_
      by_cases c1 : rd box[i] (j : Int) < lo
      · rw [if_pos c1] at h1
        by_cases c2 : rd box[i] (j : Int) > hi
        · rw [if_pos c2] at h2
          exact Ev.ip c1 (Ev.ip c2 (ih (i + 1) _ _ (by omega) (by omega) h1 h2))
        · rw [if_neg c2] at h2
          exact Ev.ip c1 (Ev.ng c2 (ih (i + 1) _ _ (by omega) (by omega) h1 h2))
      · rw [if_neg c1] at h1
        by_cases c2 : rd box[i] (j : Int) > hi
        · rw [if_pos c2] at h2
          exact Ev.ng c1 (Ev.ip c2 (ih (i + 1) _ _ (by omega) (by omega) h1 h2))
        · rw [if_neg c2] at h2
          exact Ev.ng c1 (Ev.ng c2 (ih (i + 1) _ _ (by omega) (by omega) h1 h2))
  have outer : ∀ (j : Nat) (s : Int × Int) (R : Int × Int), j ≤ 2 → Ev (fun k => spec_l21Wide.l0 k box (wideStep box j s).1 (wideStep box j s).2 ((j + 1 : Nat) : Int)) R → Ev (fun k => spec_l21Wide.l0 k box s.1 s.2 (j : Int)) R :=
    by
      intro j s R hj hn
      refine Ev.step (fun _ => by rw [spec_l21Wide.l0]) (Ev.ip (by omega) ?_)
      have h := inner j s R hj hn _ 0 255 0 rfl (by omega) (by simp) (by simp)
      exact h
  have last : Ev (fun k => spec_l21Wide.l0 k box (wideM box).1 (wideM box).2 ((2 + 1 : Nat) : Int)) (wideM box) := by
    refine Ev.step (fun _ => by rw [spec_l21Wide.l0]) ?_
    refine Ev.ng (by decide) ?_
    exact Ev.now _
  have := outer 0 (0, 0) _ (by omega) (outer 1 _ _ (by omega) (outer 2 _ _ (by omega) last))
  exact this
end Go.Proofs.Ytopebplddfhaeaa.G

namespace Go.Proofs.Ytopebplddfhaeaa.G
open Go.RowKit Go.Proofs.YtopebplddfhaeaaW.PrintWords Go.Proofs.YtopebplddfhaeaaW.PrintLast Go.Proofs.YtopebplddfhaeaaW.PrintMore
attribute [local go_sem] max2_int min2_int max_two min_two max_three min_three max_four min_four   -- for this text's walks alone
/-! ### spec_l21Sort: function 47 -/
mutual
def spec_l21Sort.l0 : Nat → List (List Int) → Int → List (List Int) → Int → Option ((List (List Int)))
  | 0, _, _, _, _ => none
  | k + 1, x0, x1, x5, x6 => if x6 < 256 then (spec_l21Sort.l1 k x0 x1 x5 x6 0) else (some x5)
def spec_l21Sort.l1 : Nat → List (List Int) → Int → List (List Int) → Int → Int → Option ((List (List Int)))
  | 0, _, _, _, _, _ => none
  | k + 1, x0, x1, x5, x6, x7 => if x7 < (x0.length : Int) then (if 0 ≤ x7 then (if 0 ≤ x1 then (if x1 < ((rd_L2 x0 x7).length : Int) then (if (rd (rd_L2 x0 x7) x1) = x6 then (if x5.length < 5864062014805 then (spec_l21Sort.l1 k x0 x1 (x5 ++ [rd_L2 x0 x7]) x6 (wrap64 (x7 + 1))) else (none)) else (spec_l21Sort.l1 k x0 x1 x5 x6 (wrap64 (x7 + 1)))) else (none)) else (none)) else (none)) else (spec_l21Sort.l0 k x0 x1 x5 (wrap64 (x6 + 1)))
end
def spec_l21Sort.f (k : Nat) (l0 : List (List Int)) (a1 : Int) : Option ((List (List Int))) := spec_l21Sort.l0 k l0 a1 (([] : List (List Int))) 0
theorem spec_l21Sort.mono_l : ∀ k, (∀ y0 y1 y2 y3, LeO (spec_l21Sort.l0 k y0 y1 y2 y3) (spec_l21Sort.l0 (k + 1) y0 y1 y2 y3)) ∧ (∀ y0 y1 y2 y3 y4, LeO (spec_l21Sort.l1 k y0 y1 y2 y3 y4) (spec_l21Sort.l1 (k + 1) y0 y1 y2 y3 y4))
  | 0 => ⟨fun _ _ _ _ r h => by simp [spec_l21Sort.l0] at h, fun _ _ _ _ _ r h => by simp [spec_l21Sort.l1] at h⟩
  | k + 1 => by
    obtain ⟨ih0, ih1⟩ := spec_l21Sort.mono_l k
    refine ⟨?_, ?_⟩
    · intro y0 y1 y2 y3
      unfold spec_l21Sort.l0
      repeat' first
      | (with_reducible exact ih0 _ _ _ _)
      | (with_reducible exact ih1 _ _ _ _ _)
      | (with_reducible exact LeO.refl _)
      | (with_reducible exact LeO.none _)
      | (with_reducible refine LeO.ite ?_ ?_)
      | (with_reducible refine LeO.bind ?_ (fun _ => ?_))
      | exact ih0 _ _ _ _
      | exact ih1 _ _ _ _ _
      | exact LeO.none _
      | refine LeO.ite ?_ ?_
      | refine LeO.bind ?_ (fun _ => ?_)
    · intro y0 y1 y2 y3 y4
      unfold spec_l21Sort.l1
      repeat' first
      | (with_reducible exact ih0 _ _ _ _)
      | (with_reducible exact ih1 _ _ _ _ _)
      | (with_reducible exact LeO.refl _)
      | (with_reducible exact LeO.none _)
      | (with_reducible refine LeO.ite ?_ ?_)
      | (with_reducible refine LeO.bind ?_ (fun _ => ?_))
      | exact ih0 _ _ _ _
      | exact ih1 _ _ _ _ _
      | exact LeO.none _
      | refine LeO.ite ?_ ?_
      | refine LeO.bind ?_ (fun _ => ?_)
theorem spec_l21Sort.mono : ∀ a0 a1 k, LeO (spec_l21Sort.f k a0 a1) (spec_l21Sort.f (k + 1) a0 a1) := by
  intro a0 a1 k
  obtain ⟨ih0, ih1⟩ := spec_l21Sort.mono_l k
  unfold spec_l21Sort.f
  repeat' first
      | (with_reducible exact ih0 _ _ _ _)
      | (with_reducible exact ih1 _ _ _ _ _)
      | (with_reducible exact LeO.refl _)
      | (with_reducible exact LeO.none _)
      | (with_reducible refine LeO.ite ?_ ?_)
      | (with_reducible refine LeO.bind ?_ (fun _ => ?_))
      | exact ih0 _ _ _ _
      | exact ih1 _ _ _ _ _
      | exact LeO.none _
      | refine LeO.ite ?_ ?_
      | refine LeO.bind ?_ (fun _ => ?_)
set_option maxHeartbeats 8000000 in
set_option maxRecDepth 100000 in
theorem spec_l21Sort.calls (k : Nat) (P0_ : Nat → Prop) (A0 : Option Addr) (c0 : Nat) (l0 : List (List Int)) (a1 : Int) (r : List (List Int)) (w : World) (hs0 : Kd.V (Kd.slice 3 (Kd.int .i64)) 25 w w.heap.size (fun k_ => P0_ k_) (.slice A0 l0.length c0) l0) (h : spec_l21Sort.f k l0 a1 = some r) :
    Calls Try.prog 47 #[.slice A0 l0.length c0, .int .i64 a1] w fun e w' => ∃ v0_ : Value, e = .returned (v0_) ∧ Kd.N (Kd.slice 3 (Kd.int .i64)) 25 w' w.heap.size (fun k_ => (P0_ k_ ∨ w.heap.size ≤ k_)) v0_ r ∧ Below w.heap.size w w' := by
  have HO0 := Aside0.mk (show Kd.V (Kd.slice 3 (Kd.int .i64)) 25 w w.heap.size (fun k_ => (P0_ k_ ∨ w.heap.size ≤ k_)) (.slice A0 l0.length c0) l0 from Kd.V_mono hs0 (fun k_ hk => .inl hk))
  have HB := Aside0.mk (Below.refl w.heap.size w)
  have H : (spec_l21Sort.l0 k l0 a1 (([] : List (List Int))) 0) = some r := h
  clear h
  obtain ⟨y119, hy119⟩ : ∃ y_ : List (List Int), y_ = (([] : List (List Int))) := ⟨_, rfl⟩
  replace H : (spec_l21Sort.l0 k l0 a1 y119 0) = some r := by first | (rw [hy119]; with_reducible exact H) | (have H2_ := (Option.bind_some _ _).symm.trans H; rw [hy119]; with_reducible exact H2_) | (have H2_ := (Option.bind_some _ _).symm.trans H; with_reducible exact H2_) | with_reducible exact H | (rw [hy119]; exact H) | exact H
  have Ny119 := Aside0.mk hy119
  clear hy119
  have H' := Aside0.mk H
  clear H
  go_enter Try.func47, Try.ntmps47
  go_wp2_with (first | ((with_reducible refine gate_dst (N := 8) rfl ?_); refine Kd.N_lit (Kd.slice 3 (Kd.int .i64)) _ 25 ?hg (N' := 8) ?hd (xs := ([] : List (List Int))) (inner := []) (ok := (fun k_ => (P0_ k_ ∨ w.heap.size ≤ k_))) (okp := (fun k_ => (P0_ k_ ∨ w.heap.size ≤ k_))) ?hr ?hp (fun _ hk => hk) ((show ∀ k_, w.heap.size ≤ k_ → (fun k_ => (P0_ k_ ∨ w.heap.size ≤ k_)) k_ from fun k_ hk => (.inr (Nat.le_trans (below_size (by repeat (first | (with_reducible first | exact HB.out | apply below_alloc | apply pw_below_drewN | apply below_drew1) | exact HB.out))) hk))) _ (Nat.le_refl _)) (Below.refl _ _) (Nat.le_refl _) (by simp) ?_; (case hd => rfl); (case hg => rfl); (case hr => first | (go_simp; done) | (go_simp; rfl)); (case hp => exact (Reps.none _ _)); intro v120 w3 ho4 hb hg_ hnew_; clear hg_ hnew_; (first | rw [← Ny119.out] at ho4 | (simp only [Int.reduceToNat] at ho4; rw [← Ny119.out] at ho4)); have n0_ := Aside0.mk (Kd.V_elder' (by (with_reducible repeat (first | apply Kd.V_alloc | apply Kd.V_drewN | apply Kd.V_drew)); exact HO0.out) (Kd.N_base ho4) hb); have n1_ := Aside0.mk (Kd.N_lower ho4 (below_size (by repeat (first | (with_reducible first | exact HB.out | apply below_alloc | apply pw_below_drewN | apply below_drew1) | exact HB.out)))); have n2_ := Aside0.mk (below_step (by repeat (first | (with_reducible first | exact HB.out | apply below_alloc | apply pw_below_drewN | apply below_drew1) | exact HB.out)) hb); clear HO0; clear HB; have HO0 := n0_; have HO121 := n1_; have HB := n2_; clear n0_ n1_ n2_; clear hb ho4))
  go_loopg [5, 6] k (fun kq v5 v6 w' => ∃ (x5_1 : List (List Int)) (x6_1 : Int), v6 = .int .i64 x6_1 ∧ Aside0 (spec_l21Sort.l0 kq l0 a1 x5_1 x6_1 = some r) ∧ Aside0 (kq ≤ k) ∧ Aside0 (Kd.V (Kd.slice 3 (Kd.int .i64)) 25 w' w.heap.size (fun k_ => (P0_ k_ ∨ w.heap.size ≤ k_) ∧ some k_ ≠ (v5 : Value).ownBlock) (.slice A0 l0.length c0) l0) ∧ Aside0 (Kd.N (Kd.slice 3 (Kd.int .i64)) 25 w' w.heap.size (fun k_ => (P0_ k_ ∨ w.heap.size ≤ k_)) v5 x5_1) ∧ Aside0 (Below w.heap.size w w'))
  case atStart => exact ⟨(y119), (0), (by first | rfl | (simp; done) | (simp [*]; done)), H', ⟨Nat.le_refl _⟩, ⟨by (with_reducible repeat (first | apply Kd.V_alloc | apply Kd.V_drewN | apply Kd.V_drew)); exact HO0.out⟩, ⟨by (with_reducible repeat (first | apply Kd.N_alloc | apply Kd.N_drewN | apply Kd.N_drew)); exact HO121.out⟩, ⟨by repeat (first | (with_reducible first | exact HB.out | apply below_alloc | apply pw_below_drewN | apply below_drew1) | exact HB.out)⟩⟩
  case round =>
    clear H'
    try clear p2
    try clear c4
    obtain ⟨x5_1, x6_1, rfl, HA, HK1, HO_0, HO_5, HB⟩ := hrel
    cases gk with
    | zero => exact absurd HA.out (by simp [spec_l21Sort.l0])
    | succ k1 =>
      have H := HA.out
      clear HA
      simp only [spec_l21Sort.l0] at H
      by_cases c5 : x6_1 < 256
      · rw [if_pos c5] at H
        have c5b0 : decide (x6_1 < 256) = true := decide_eq_true c5
        clear c5
        have H' := Aside0.mk H
        clear H
        go_wp2
        go_loopg [5, 7] k1 (fun kq v5 v7 w' => ∃ (x5_2 : List (List Int)) (x7_2 : Int), v7 = .int .i64 x7_2 ∧ Aside0 (spec_l21Sort.l1 kq l0 a1 x5_2 x6_1 x7_2 = some r) ∧ Aside0 (kq ≤ k1) ∧ Aside0 (Kd.V (Kd.slice 3 (Kd.int .i64)) 25 w' w.heap.size (fun k_ => (P0_ k_ ∨ w.heap.size ≤ k_) ∧ some k_ ≠ (v5 : Value).ownBlock) (.slice A0 l0.length c0) l0) ∧ Aside0 (Kd.N (Kd.slice 3 (Kd.int .i64)) 25 w' w.heap.size (fun k_ => (P0_ k_ ∨ w.heap.size ≤ k_)) v5 x5_2) ∧ Aside0 (Below w.heap.size w w'))
        case atStart => exact ⟨(x5_1), (0), (by first | rfl | (simp; done) | (simp [*]; done)), H', ⟨Nat.le_refl _⟩, ⟨by (with_reducible repeat (first | apply Kd.V_alloc | apply Kd.V_drewN | apply Kd.V_drew)); exact HO_0.out⟩, ⟨by (with_reducible repeat (first | apply Kd.N_alloc | apply Kd.N_drewN | apply Kd.N_drew)); exact HO_5.out⟩, ⟨by repeat (first | (with_reducible first | exact HB.out | apply below_alloc | apply pw_below_drewN | apply below_drew1) | exact HB.out)⟩⟩
        case round =>
          clear H'
          try clear p2
          try clear c4
          try clear c5
          try clear c5b0
          try clear p2
          obtain ⟨x5_2, x7_2, rfl, HA, HK2, HO_0, HO_5, HB⟩ := hrel
          cases gk with
          | zero => exact absurd HA.out (by simp [spec_l21Sort.l1])
          | succ k2 =>
            have H := HA.out
            clear HA
            simp only [spec_l21Sort.l1] at H
            by_cases c6 : x7_2 < (l0.length : Int)
            · rw [if_pos c6] at H
              have c6b0 : decide (x7_2 < (l0.length : Int)) = true := decide_eq_true c6
              clear c6
              by_cases c7 : 0 ≤ x7_2
              · rw [if_pos c7] at H
                have c7b0 : decide (0 ≤ x7_2) = true := decide_eq_true c7
                clear c7
                by_cases c8 : 0 ≤ a1
                · rw [if_pos c8] at H
                  have c8b0 : decide (0 ≤ a1) = true := decide_eq_true c8
                  clear c8
                  by_cases c9 : a1 < ((rd_L2 l0 x7_2).length : Int)
                  · rw [if_pos c9] at H
                    have c9b0 : decide (a1 < ((rd_L2 l0 x7_2).length : Int)) = true := decide_eq_true c9
                    clear c9
                    by_cases c10 : (rd (rd_L2 l0 x7_2) a1) = x6_1
                    · rw [if_pos c10] at H
                      have c10b0 : ((rd (rd_L2 l0 x7_2) a1) == x6_1) = true := beq_iff_eq.mpr c10
                      have c10b1 : ((rd (rd_L2 l0 x7_2) a1) != x6_1) = false := bne_eq_false_iff_eq.mpr c10
                      clear c10
                      by_cases c11 : x5_2.length < 5864062014805
                      · rw [if_pos c11] at H
                        have LMc11 := Aside0.mk c11
                        clear c11
                        obtain ⟨y125, hy125⟩ : ∃ y_ : List (List Int), y_ = (x5_2 ++ [rd_L2 l0 x7_2]) := ⟨_, rfl⟩
                        replace H : (spec_l21Sort.l1 k2 l0 a1 y125 x6_1 (wrap64 (x7_2 + 1))) = some r := by first | (rw [hy125]; with_reducible exact H) | (have H2_ := (Option.bind_some _ _).symm.trans H; rw [hy125]; with_reducible exact H2_) | (have H2_ := (Option.bind_some _ _).symm.trans H; with_reducible exact H2_) | with_reducible exact H | (rw [hy125]; exact H) | exact H
                        have Ny125 := Aside0.mk hy125
                        clear hy125
                        have H' := Aside0.mk H
                        clear H
                        have p122 : 0 ≤ (x7_2 : Int) := of_decide_eq_true (by first | (with_reducible assumption) | assumption)
                        have q122 : x7_2 < (l0.length : Int) := of_decide_eq_true (by first | (with_reducible assumption) | assumption)
                        obtain ⟨ad122, A122_0, c122_0, e122, hx122_0, hl122_0, hi122_0⟩ := at_L2 (Kd.V_reads' HO_0.out).2.2 x7_2 p122 q122
                        cases e122
                        obtain ⟨ce122, hce122, hMe122, hcc122⟩ := Kd.V_get HO_0.out [] x7_2 p122 (by first | exact q122 | exact of_decide_eq_true (by first | (with_reducible assumption) | assumption) | (have e_ := (Kd.V_reads' HO_0.out).1; omega))
                        obtain ⟨ua122_0, uc122_0, rfl, ul122_0, ge122_0⟩ := Kd.FK_slice_open hMe122
                        have hv122_0 := hcc122 0 _ rfl
                        rw [Nat.add_zero, show ((Kd.slice 3 (Kd.int .i64))).sz = 1 from rfl, Nat.mul_one] at hv122_0
                        replace hv122_0 := Option.some.inj (hv122_0.symm.trans hx122_0)
                        injection hv122_0 with hva_ hvn_ hvc_
                        rw [hva_] at ge122_0
                        rw [hvc_] at ul122_0
                        have HL122_0 := Aside0.mk (show Kd.V (Kd.int .i64) 3 _ w.heap.size _ _ (rd_L2 l0 x7_2) from Kd.V_mk ul122_0 ge122_0)
                        clear hva_ hvn_ hvc_ ge122_0 ul122_0
                        clear hcc122 hce122
                        have HR122_0 := Aside0.mk hi122_0
                        have HC122_0 := Aside0.mk hl122_0
                        clear hi122_0 hl122_0
                        replace p122 := eq_true p122
                        replace q122 := eq_true q122
                        have p123 : 0 ≤ (a1 : Int) := of_decide_eq_true (by first | (with_reducible assumption) | assumption)
                        have q123 : a1 < ((rd_L2 l0 x7_2).length : Int) := of_decide_eq_true (by first | (with_reducible assumption) | assumption)
                        obtain ⟨ad123, e123, hx123_0⟩ := Kd.at_int (by repeat (first | (with_reducible exact HR122_0.out) | (with_reducible refine Kd.C_alloc ?_ _) | (with_reducible refine Kd.C_drewN ?_ _) | (with_reducible refine Kd.C_drew ?_) | exact HR122_0.out)) a1 p123 q123
                        cases e123
                        replace p123 := eq_true p123
                        replace q123 := eq_true q123
                        have p124 : 0 ≤ (x7_2 : Int) := of_decide_eq_true (by first | (with_reducible assumption) | assumption)
                        have q124 : x7_2 < (l0.length : Int) := of_decide_eq_true (by first | (with_reducible assumption) | assumption)
                        obtain ⟨ad124, A124_0, c124_0, e124, hx124_0, hl124_0, hi124_0⟩ := at_L2 (Kd.V_reads' HO_0.out).2.2 x7_2 p124 q124
                        obtain rfl : ad122 = ad124 := (by injection e124)
                        obtain ⟨ce124, hce124, hMe124, hcc124⟩ := Kd.V_get HO_0.out [] x7_2 p124 (by first | exact q124 | exact of_decide_eq_true (by first | (with_reducible assumption) | assumption) | (have e_ := (Kd.V_reads' HO_0.out).1; omega))
                        obtain ⟨ua124_0, uc124_0, rfl, ul124_0, ge124_0⟩ := Kd.FK_slice_open hMe124
                        have hv124_0 := hcc124 0 _ rfl
                        rw [Nat.add_zero, show ((Kd.slice 3 (Kd.int .i64))).sz = 1 from rfl, Nat.mul_one] at hv124_0
                        replace hv124_0 := Option.some.inj (hv124_0.symm.trans hx124_0)
                        injection hv124_0 with hva_ hvn_ hvc_
                        rw [hva_] at ge124_0
                        rw [hvc_] at ul124_0
                        have HL124_0 := Aside0.mk (show Kd.V (Kd.int .i64) 3 _ w.heap.size _ _ (rd_L2 l0 x7_2) from Kd.V_mk ul124_0 ge124_0)
                        clear hva_ hvn_ hvc_ ge124_0 ul124_0
                        clear hcc124 hce124
                        have HR124_0 := Aside0.mk hi124_0
                        have HC124_0 := Aside0.mk hl124_0
                        clear hi124_0 hl124_0
                        replace p124 := eq_true p124
                        replace q124 := eq_true q124
                        have ea_ := Option.some.inj (hx122_0.symm.trans hx124_0)
                        injection ea_ with ea_ en_ ec_
                        subst ea_
                        subst ec_
                        clear en_
                        go_wp2_with (first | ((with_reducible refine gate_builtin (b := .append) (xs := #[.tmp 28, .tmp 33]) rfl ?_); at_builtin; refine Kd.N_append (Kd.slice 3 (Kd.int .i64)) (w0 := w) w.heap.size rfl (.tmp 28) (.tmp 33) 24 25 (.slice none 0 0) 24 rfl Try.underlying24 info25 rfl (by decide) (by omega) u5 x5_2 (rd_L2 l0 x7_2) [.slice (some ad123) (rd_L2 l0 x7_2).length c122_0] (fun k_ => (P0_ k_ ∨ w.heap.size ≤ k_)) (fun k_ => ((fun k_ => (P0_ k_ ∨ w.heap.size ≤ k_))) k_ ∧ some k_ ≠ (u5 : Value).ownBlock) rfl rfl ?aP (fun _ hk => hk) ?aF ?aO ?aB ?aS ?aL ?_; (case aP => exact (Kd.FK_slice_mk (Kd.V_reads' (Kd.V_mono (ok' := (fun k_ => ((fun k_ => (P0_ k_ ∨ w.heap.size ≤ k_))) k_ ∧ some k_ ≠ (u5 : Value).ownBlock)) (HL124_0.out) (fun k_ hk => ⟨hk.1, hk.2⟩))).2.1 (Kd.V_F (Kd.V_mono (ok' := (fun k_ => ((fun k_ => (P0_ k_ ∨ w.heap.size ≤ k_))) k_ ∧ some k_ ≠ (u5 : Value).ownBlock)) (HL124_0.out) (fun k_ hk => ⟨hk.1, hk.2⟩))))); (case aB => exact (by repeat (first | (with_reducible first | exact HB.out | apply below_alloc | apply pw_below_drewN | apply below_drew1) | exact HB.out))); (case aF => exact (fun k_ hk => (.inr (Nat.le_trans (below_size (by repeat (first | (with_reducible first | exact HB.out | apply below_alloc | apply pw_below_drewN | apply below_drew1) | exact HB.out))) hk)))); (case aO => exact (by (with_reducible repeat (first | apply Kd.N_alloc | apply Kd.N_drewN | apply Kd.N_drew)); exact HO_5.out)); (case aS => exact (below_size (by repeat (first | (with_reducible first | exact HB.out | apply below_alloc | apply pw_below_drewN | apply below_drew1) | exact HB.out)))); (case aL => have := LMc11.out; omega); intro v126 w12 ho hb hg hat; rw [← Ny125.out] at ho; have n0_ := Aside0.mk (Kd.V_afterv (ok := (fun k_ => (P0_ k_ ∨ w.heap.size ≤ k_))) (by (with_reducible repeat (first | apply Kd.V_alloc | apply Kd.V_drewN | apply Kd.V_drew)); exact HO_0.out) hg hat); have n1_ := Aside0.mk (Kd.V_afterv (ok := (fun k_ => (P0_ k_ ∨ w.heap.size ≤ k_))) (by (with_reducible repeat (first | apply Kd.V_alloc | apply Kd.V_drewN | apply Kd.V_drew)); exact HL122_0.out) hg hat); have n2_ := Aside0.mk (Kd.V_afterv (ok := (fun k_ => (P0_ k_ ∨ w.heap.size ≤ k_))) (by (with_reducible repeat (first | apply Kd.V_alloc | apply Kd.V_drewN | apply Kd.V_drew)); exact HL124_0.out) hg hat); have n3_ := Aside0.mk (hb); have n4_ := Aside0.mk (ho); clear HO_0; clear HL122_0; clear HL124_0; clear HB; clear HO_5; have HO_0 := n0_; have HL122_0 := n1_; have HL124_0 := n2_; have HB := n3_; have HO127 := n4_; clear n0_ n1_ n2_ n3_ n4_; clear ho hb hg hat))
                        go_roundg k2
                        case measure => have := HK1.out; have := HK2.out; omega
                        case rel => exact ⟨(y125), (wrap64 (x7_2 + 1)), (by first | rfl | (simp; done) | (simp [*]; done)), H', ⟨by have := HK1.out; have := HK2.out; omega⟩, ⟨by (with_reducible repeat (first | apply Kd.V_alloc | apply Kd.V_drewN | apply Kd.V_drew)); exact HO_0.out⟩, ⟨by (with_reducible repeat (first | apply Kd.N_alloc | apply Kd.N_drewN | apply Kd.N_drew)); exact HO127.out⟩, ⟨by repeat (first | (with_reducible first | exact HB.out | apply below_alloc | apply pw_below_drewN | apply below_drew1) | exact HB.out)⟩⟩
                      · rw [if_neg c11] at H
                        exact absurd H (by simp)
                    · rw [if_neg c10] at H
                      have c10b0 : ((rd (rd_L2 l0 x7_2) a1) == x6_1) = false := beq_eq_false_iff_ne.mpr c10
                      have c10b1 : ((rd (rd_L2 l0 x7_2) a1) != x6_1) = true := bne_iff_ne.mpr c10
                      have H' := Aside0.mk H
                      clear H
                      have p122 : 0 ≤ (x7_2 : Int) := of_decide_eq_true (by first | (with_reducible assumption) | assumption)
                      have q122 : x7_2 < (l0.length : Int) := of_decide_eq_true (by first | (with_reducible assumption) | assumption)
                      obtain ⟨ad122, A122_0, c122_0, e122, hx122_0, hl122_0, hi122_0⟩ := at_L2 (Kd.V_reads' HO_0.out).2.2 x7_2 p122 q122
                      cases e122
                      obtain ⟨ce122, hce122, hMe122, hcc122⟩ := Kd.V_get HO_0.out [] x7_2 p122 (by first | exact q122 | exact of_decide_eq_true (by first | (with_reducible assumption) | assumption) | (have e_ := (Kd.V_reads' HO_0.out).1; omega))
                      obtain ⟨ua122_0, uc122_0, rfl, ul122_0, ge122_0⟩ := Kd.FK_slice_open hMe122
                      have hv122_0 := hcc122 0 _ rfl
                      rw [Nat.add_zero, show ((Kd.slice 3 (Kd.int .i64))).sz = 1 from rfl, Nat.mul_one] at hv122_0
                      replace hv122_0 := Option.some.inj (hv122_0.symm.trans hx122_0)
                      injection hv122_0 with hva_ hvn_ hvc_
                      rw [hva_] at ge122_0
                      rw [hvc_] at ul122_0
                      have HL122_0 := Aside0.mk (show Kd.V (Kd.int .i64) 3 _ w.heap.size _ _ (rd_L2 l0 x7_2) from Kd.V_mk ul122_0 ge122_0)
                      clear hva_ hvn_ hvc_ ge122_0 ul122_0
                      clear hcc122 hce122
                      have HR122_0 := Aside0.mk hi122_0
                      have HC122_0 := Aside0.mk hl122_0
                      clear hi122_0 hl122_0
                      replace p122 := eq_true p122
                      replace q122 := eq_true q122
                      have p123 : 0 ≤ (a1 : Int) := of_decide_eq_true (by first | (with_reducible assumption) | assumption)
                      have q123 : a1 < ((rd_L2 l0 x7_2).length : Int) := of_decide_eq_true (by first | (with_reducible assumption) | assumption)
                      obtain ⟨ad123, e123, hx123_0⟩ := Kd.at_int (by repeat (first | (with_reducible exact HR122_0.out) | (with_reducible refine Kd.C_alloc ?_ _) | (with_reducible refine Kd.C_drewN ?_ _) | (with_reducible refine Kd.C_drew ?_) | exact HR122_0.out)) a1 p123 q123
                      cases e123
                      replace p123 := eq_true p123
                      replace q123 := eq_true q123
                      go_wp2
                      go_roundg k2
                      case measure => have := HK1.out; have := HK2.out; omega
                      case rel => exact ⟨(x5_2), (wrap64 (x7_2 + 1)), (by first | rfl | (simp; done) | (simp [*]; done)), H', ⟨by have := HK1.out; have := HK2.out; omega⟩, ⟨by (with_reducible repeat (first | apply Kd.V_alloc | apply Kd.V_drewN | apply Kd.V_drew)); exact HO_0.out⟩, ⟨by (with_reducible repeat (first | apply Kd.N_alloc | apply Kd.N_drewN | apply Kd.N_drew)); exact HO_5.out⟩, ⟨by repeat (first | (with_reducible first | exact HB.out | apply below_alloc | apply pw_below_drewN | apply below_drew1) | exact HB.out)⟩⟩
                  · rw [if_neg c9] at H
                    exact absurd H (by simp)
                · rw [if_neg c8] at H
                  exact absurd H (by simp)
              · rw [if_neg c7] at H
                exact absurd H (by simp)
            · rw [if_neg c6] at H
              have c6b0 : decide (x7_2 < (l0.length : Int)) = false := decide_eq_false c6
              clear c6
              have H' := Aside0.mk H
              clear H
              go_wp2
              go_roundg k2
              case measure => have := HK1.out; have := HK2.out; omega
              case rel => exact ⟨(x5_2), (wrap64 (x6_1 + 1)), (by first | rfl | (simp; done) | (simp [*]; done)), H', ⟨by have := HK1.out; have := HK2.out; omega⟩, ⟨by (with_reducible repeat (first | apply Kd.V_alloc | apply Kd.V_drewN | apply Kd.V_drew)); exact HO_0.out⟩, ⟨by (with_reducible repeat (first | apply Kd.N_alloc | apply Kd.N_drewN | apply Kd.N_drew)); exact HO_5.out⟩, ⟨by repeat (first | (with_reducible first | exact HB.out | apply below_alloc | apply pw_below_drewN | apply below_drew1) | exact HB.out)⟩⟩
      · rw [if_neg c5] at H
        have c5b0 : decide (x6_1 < 256) = false := decide_eq_false c5
        clear c5
        obtain rfl := Option.some.inj H
        go_wp2
        go_ret
        exact ⟨_, by first | rfl | (simp [errW_none, errW_some] <;> rfl) | (simp [*, errW_none, errW_some] <;> rfl), by (with_reducible repeat (first | apply Kd.N_alloc | apply Kd.N_drewN | apply Kd.N_drew)); exact HO_5.out, by repeat (first | (with_reducible first | exact HB.out | apply below_alloc | apply pw_below_drewN | apply below_drew1) | exact HB.out)⟩
theorem spec_l21Sort.ev (box : List (List Int)) (hp : ∀ px ∈ box, isPx px = true) (hl : box.length ≤ 1048576) (j : Int) (h0 : 0 ≤ j) (h1 : j ≤ 2) : Ev (fun k => spec_l21Sort.f k box j) (sortM box j) := by
  unfold spec_l21Sort.f
  have hlen : ∀ n : Nat, (sortGo box j n).length ≤ box.length := by
    intro n
    induction box with
    | nil =>
      have : ∀ n, sortGo [] j n = [] := by
        intro n
        induction n with
        | zero => rfl
        | succ n ih => simp [sortGo, ih, sortV]
      rw [this]; simp
    | cons px t ih =>
      have := ih (fun q hq => hp q (List.mem_cons_of_mem _ hq)) (by simp at hl; omega)
      rw [sortGo_cons, List.length_cons]
      split <;> omega
  have outer : ∀ d v : Nat, 256 - v = d → v ≤ 256 → Ev (fun k => spec_l21Sort.l0 k box j (sortGo box j v) (v : Int)) (sortM box j) := by
    intro d
    induction d with
    | zero =>
      intro v hd hv
      obtain rfl : v = 256 := by omega
      refine Ev.step (fun _ => by rw [spec_l21Sort.l0]) ?_
      refine Ev.ng (by omega) ?_
      exact Ev.eq (Ev.now _) rfl
    | succ d ihd =>
      intro v hd hv
      refine Ev.step (fun _ => by rw [spec_l21Sort.l0]) (Ev.ip (by omega) ?_)
      have inner : ∀ e i : Nat, box.length - i = e → i ≤ box.length → Ev (fun k => spec_l21Sort.l1 k box j (sortGo box j v ++ sortV (box.take i) j v) (v : Int) (i : Int)) (sortM box j) := by
        intro e
        induction e with
        | zero =>
          intro i he hi
          obtain rfl : i = box.length := by omega
          refine Ev.step (fun _ => by rw [spec_l21Sort.l1]) (Ev.ng (by omega) ?_)
          rw [List.take_length, wrap_succ v (by omega)]
          exact ihd (v + 1) (by omega) (by omega)
        | succ e ih =>
          intro i he hi
          have hlt : i < box.length := by omega
          have hx := px_rd (hp _ (List.getElem_mem hlt)) j h0 (by omega)
          have er : rd_L2 box (i : Int) = box[i] := by simp [rd_L2, hlt]
          have hfl : (sortV (box.take i) j v).length ≤ i := Nat.le_trans (List.length_filter_le _ _) (by rw [List.length_take]; omega)
          have hgl := hlen v
          have es : sortV (box.take (i + 1)) j v = sortV (box.take i) j v ++ (if rd box[i] j = v then [box[i]] else []) := by
            unfold sortV
            rw [List.take_succ_eq_append_getElem hlt, List.filter_append]
            congr 1
            by_cases h : rd box[i] j = v
            · rw [if_pos h]; simp [h]
            · rw [if_neg h]; simp [h]
          refine Ev.step (fun _ => by rw [spec_l21Sort.l1]) (Ev.ip (by omega) (Ev.ip (by omega) (Ev.ip h0 ?_)))
          rw [er, wrap_succ i (by omega)]
          refine Ev.ip (by omega) ?_
          have hn := ih (i + 1) (by omega) (by omega)
          rw [es] at hn
          by_cases c : rd box[i] j = v
          · rw [if_pos c, ← List.append_assoc] at hn
            exact Ev.ip c (Ev.ip (by rw [List.length_append]; omega) hn)
          · rw [if_neg c, List.append_nil] at hn
            exact Ev.ng c hn
      have := inner _ 0 rfl (by omega)
      simpa [sortV] using this
  exact outer _ 0 rfl (by omega)
end Go.Proofs.Ytopebplddfhaeaa.G

namespace Go.Proofs.Ytopebplddfhaeaa.G
open Go.RowKit Go.Proofs.YtopebplddfhaeaaW.PrintWords Go.Proofs.YtopebplddfhaeaaW.PrintLast Go.Proofs.YtopebplddfhaeaaW.PrintMore
attribute [local go_sem] max2_int min2_int max_two min_two max_three min_three max_four min_four   -- for this text's walks alone
/-! ### spec_Palette: function 19 -/
--import Derived.BigRegion
--import Derived.Deep.CutBlock
--import Derived.Deep.CutRange
--import Derived.Deep.LoopGhost
--import Derived.Deep.DeepCutAuto
def spec_Palette.f (l0 : List (List Int)) (a1 : Int) : Option (List (List Int)) := if l0.length ≤ 1048576 then some (palM l0 a1) else none
abbrev dBox : Kd (List (List Int)) := Kd.slice 25 (Kd.slice 3 (Kd.int .i64))
theorem boxes_start {w W : World} {A0 : Option Addr} {c0 : Nat} {l0 : List (List Int)} (hr0 : Kd.C (Kd.slice 3 (Kd.int .i64)) w A0 l0.length l0) (hc0 : l0.length ≤ c0) (hB : Below w.heap.size w W) : Reps (Kd.FK dBox W (fun k => k < w.heap.size)) 1 [l0] [.slice A0 l0.length c0] := by
  have hF := Kd.F_step (Kd.C_F (Kd.heap_slice _ (Kd.heap_int _)) hr0) (fun k hk _ => hB.block k hk)
  exact (Reps.none _ _).snoc (Kd.FK_slice_mk hc0 hF) rfl
def PalRel (w : World) (a1 : Int) (l0 : List (List Int)) (v5 : Value) (kq : Nat) (v6 : Value) (w' : World) : Prop :=
  ∃ (bs : List (List (List Int))) (f : Nat), Aside0 (Kd.N dBox 24 w' w.heap.size (fun k => True ∧ some k ≠ (v5 : Value).ownBlock) v6 bs) ∧ Aside0 (BoxesOk bs) ∧ Aside0 (palGo a1 f bs = palGo a1 a1.toNat [l0]) ∧ Aside0 (Kd.S (Kd.slice 3 (Kd.int .i64)) 25 w' w.heap.size (fun _ => True) v5 []) ∧ Aside0 (Below w.heap.size w w') ∧ a1 ≤ bs.length + f ∧ 1 ≤ bs.length ∧ kq = a1.toNat - bs.length + 1
def PalEnd (w : World) (a1 : Int) (l0 : List (List Int)) (v5 : Value) (v6 : Value) (w' : World) : Prop :=
  ∃ bs : List (List (List Int)), Aside0 (Kd.N dBox 24 w' w.heap.size (fun k => True ∧ some k ≠ (v5 : Value).ownBlock) v6 bs) ∧ Aside0 (BoxesOk bs) ∧ Aside0 (palGo a1 a1.toNat [l0] = bs) ∧ Aside0 (Kd.S (Kd.slice 3 (Kd.int .i64)) 25 w' w.heap.size (fun _ => True) v5 []) ∧ Aside0 (Below w.heap.size w w')
theorem s_not {w W : World} {ok : Nat → Prop} {v : Value} {xs : List (List Int)} (h : Kd.S (Kd.slice 3 (Kd.int .i64)) 25 W w.heap.size ok v xs) : (∀ k, k < w.heap.size → some k ≠ v.ownBlock) ∧ (∀ k, W.heap.size ≤ k → some k ≠ v.ownBlock) :=
  ⟨fun k hk e => by have := Kd.R_base (Kd.S_R h) k e.symm; omega, fun k hk e => by have := Kd.S_lt h k e.symm; omega⟩
theorem palGo_stop (k : Int) (f : Nat) (bs : List (List (List Int))) (h : ¬ (bs.length : Int) < k ∨ partM bs = none) : palGo k f bs = bs := by
  cases f with
  | zero => rfl
  | succ f =>
    simp only [palGo]
    rcases h with h | h
    · rw [if_neg h]
    · split
      · rw [h]
      · rfl
set_option maxRecDepth 100000 in
set_option maxHeartbeats 8000000 in
theorem spec_Palette.callsS (A0 : Option Addr) (c0 : Nat) (l0 : List (List Int)) (a1 : Int) (r : List (List Int)) (w : World) (hr0 : Kd.C (Kd.slice 3 (Kd.int .i64)) w A0 l0.length l0) (hc0 : l0.length ≤ c0) (h : spec_Palette.f l0 a1 = some r) :
    Calls Try.prog 19 #[.slice A0 l0.length c0, .int .i64 a1] w fun e w' => ∃ v0_ : Value, e = .returned v0_ ∧ Kd.S (Kd.slice 3 (Kd.int .i64)) 25 w' w.heap.size (fun _ => True) v0_ r ∧ Below w.heap.size w w' := by
  unfold spec_Palette.f at h
  split at h
  · rename_i hl
    have HH := Aside0.mk (Option.some.inj h)
    have HR := Aside0.mk hr0
    have HC := Aside0.mk hc0
    clear h hr0 hc0
    go_enter Try.func19, Try.ntmps19
    go_upto_region 2 with (first | ((with_reducible refine gate_dst (N := 19) rfl ?_); refine Kd.S_lit (w0 := w) (Kd.slice 3 (Kd.int .i64)) w.heap.size 25 ?hg (N := 19) ?hd (xs := ([] : List (List Int))) (inner := []) (ok := fun _ => True) (okp := fun _ => True) ?hr ?hp (fun _ hk => hk) trivial (Below.refl _ _) (Nat.le_refl _) (by simp) ?_; (case hd => rfl); (case hg => rfl); (case hr => first | (go_simp; done) | (go_simp; rfl)); (case hp => exact (Reps.none _ _)); intro v5 w1 ho hb hg_ hnew_; have HO := Aside0.mk ho; have HB := Aside0.mk hb; clear ho hb hg_ hnew_))
    obtain ⟨pk, hpk⟩ : ∃ pk, pk = (decide (l0.length ≤ 4096) && l0.all isPx) := ⟨_, rfl⟩
    have hpe := spec_PixelsOk.ev l0
    rw [← hpk] at hpe
    obtain ⟨kp, hkp⟩ := hpe.rounds
    have HKP := Aside0.mk hkp
    have hok : palOk l0 a1 = (pk && decide (l0.length ≠ 0) && (decide (1 ≤ a1) && decide (a1 ≤ 256))) := by unfold palOk; rw [hpk]
    unfold palM at HH
    have hdone : palOk l0 a1 = false → r = [] := fun e => by have h1 := HH.out; rw [e, if_neg (by decide)] at h1; exact h1.symm
    have HDONE := Aside0.mk hdone
    have HOK := Aside0.mk hok
    have HPK := Aside0.mk hpk
    clear hpe hkp hpk hok hdone
    cases pk with
    | false =>
      go_wp2_with fail
      refine (spec_PixelsOk.calls kp A0 c0 l0 false _ (Kd.C_below HR.out HB.out) HC.out HKP.out).mono ?_
      rintro e_ w_ ⟨rfl, ⟨nd, rfl⟩⟩
      go_wp2
      go_ret
      have := HDONE.out (by rw [HOK.out]; rfl)
      subst this
      exact ⟨_, rfl, Kd.S_drewN HO.out _, pw_below_drewN HB.out _⟩
    | true =>
      by_cases hl0 : l0.length = 0
      · have z1 : ((l0.length : Int) == 0) = true := by rw [beq_iff_eq]; omega
        have z2 : (l0.length == 0) = true := by rw [beq_iff_eq]; omega
        have HL0 := Aside0.mk hl0
        clear hl0
        go_wp2_with fail
        refine (spec_PixelsOk.calls kp A0 c0 l0 true _ (Kd.C_below HR.out HB.out) HC.out HKP.out).mono ?_
        rintro e_ w_ ⟨rfl, ⟨nd, rfl⟩⟩
        go_wp2
        go_ret
        have := HDONE.out (by rw [HOK.out, HL0.out]; rfl)
        subst this
        exact ⟨_, rfl, Kd.S_drewN HO.out _, pw_below_drewN HB.out _⟩
      · have z1 : ((l0.length : Int) == 0) = false := by rw [beq_eq_false_iff_ne]; omega
        have z2 : (l0.length == 0) = false := by rw [beq_eq_false_iff_ne]; omega
        have hwi := spec_l01Between.val a1 1 256
        by_cases hn : 1 ≤ a1 ∧ a1 ≤ 256
        · have hko : palOk l0 a1 = true := by rw [HOK.out]; simp [hl0, hn.1, hn.2]
          obtain ⟨n0, n1⟩ := hn
          rw [show (decide (1 ≤ a1) && decide (a1 ≤ 256)) = true by simp [n0, n1]] at hwi
          have HW := Aside0.mk hwi
          have hh := HH.out
          rw [hko, if_pos rfl] at hh
          replace HH := Aside0.mk hh
          have hbo : BoxesOk [l0] := by
            have h1 := HPK.out.symm
            simp only [Bool.and_eq_true, decide_eq_true_eq, List.all_eq_true] at h1
            exact ⟨fun b hb px hx => by rw [List.mem_singleton.1 hb] at hx; exact h1.2 px hx, fun b hb => by rw [List.mem_singleton.1 hb]; omega, by simp⟩
          have HBO := Aside0.mk hbo
          clear hwi hh hko hbo HOK HPK HDONE
          go_wp2_with fail
          refine (spec_PixelsOk.calls kp A0 c0 l0 true _ (Kd.C_below HR.out HB.out) HC.out HKP.out).mono ?_
          rintro e_ w_ ⟨rfl, ⟨nd, rfl⟩⟩
          go_wp2_with fail
          refine (spec_l01Between.calls a1 1 256 true _ HW.out).mono ?_
          rintro e_ w_ ⟨rfl, ⟨nd2, rfl⟩⟩
          have HO2 := Aside0.mk (Kd.S_drewN HO.out (nd + nd2))
          have HB2 := Aside0.mk (pw_below_drewN HB.out (nd + nd2))
          clear HO HB
          (try rw [World.drewN_drewN])
          generalize w1.drewN (nd + nd2) = w2 at HO2 HB2 ⊢
          go_upto_block 0 with (first | ((with_reducible refine gate_dst (N := 35) rfl ?_); refine Kd.N_lit (w0 := w) dBox w.heap.size 24 ?hg (N' := 35) ?hd (xs := [l0]) (inner := [.slice A0 l0.length c0]) (ok := (fun k => True ∧ some k ≠ (v5 : Value).ownBlock)) (okp := fun k => k < w.heap.size) ?hr (boxes_start HR.out HC.out HB2.out) (fun k hk => ⟨trivial, (s_not HO2.out).1 k hk⟩) ⟨trivial, (s_not HO2.out).2 _ (Nat.le_refl _)⟩ HB2.out HB2.out.size (by simp) ?_; (case hd => rfl); (case hg => rfl); (case hr => first | (go_simp; done) | (go_simp; rfl)); intro v6 w3 ho hb hg_ hnew_; have HN := Aside0.mk ho; have HB3 := Aside0.mk hb; have HO3 := Aside0.mk (Kd.S_grown HO2.out hg_ (fun _ _ => by simp)); clear ho hb hg_ hnew_))
          go_cut [6] (fun v6 wx => PalEnd w a1 l0 v5 v6 wx)
          case first =>
            go_wp2_with fail
            go_loopg [6] (a1.toNat) (fun kq v6 w' => PalRel w a1 l0 v5 kq v6 w')
            case atStart => exact ⟨[l0], a1.toNat, HN, HBO, ⟨rfl⟩, HO3, HB3, by simp; omega, by simp, by simp; omega⟩
            case round =>
              clear HN HO3 HB3 HO2 HB2
              obtain ⟨bs, f, HN, HBO, HG, HO, HB, hfu, hb1, rfl⟩ := hrel
              obtain ⟨g, cap, e6, hgb, hgl, _⟩ := Kd.N_form HN.out (by omega)
              subst e6
              by_cases hlt : (bs.length : Int) < a1
              · have hwide := pickM_range bs HBO.out.1
                obtain ⟨pb, hpb⟩ : ∃ pb, pb = pickM bs := ⟨_, rfl⟩
                rw [← hpb] at hwide
                have HPB := Aside0.mk hpb
                clear hpb
                go_wp2_with fail
                go_loopg [7, 8, 9, 10] (bs.length + 1) (fun kq v7 v8 v9 v10 w' => ∃ (i : Nat) (b m q : Int), v7 = .int .i64 b ∧ v8 = .int .i64 m ∧ v9 = .int .i64 q ∧ v10 = .int .i64 i ∧ i ≤ bs.length ∧ Aside0 (pickGo (bs.drop i) i (b, m, q) = pb) ∧ Aside0 (Kd.N dBox 24 w' w.heap.size (fun k => True ∧ some k ≠ (v5 : Value).ownBlock) (.slice (some ⟨g, 0, none⟩) bs.length cap) bs) ∧ Aside0 (Kd.S (Kd.slice 3 (Kd.int .i64)) 25 w' w.heap.size (fun _ => True) v5 []) ∧ Aside0 (Below w.heap.size w w') ∧ kq = bs.length - i + 1)
                case atStart => exact ⟨0, -1, 0, 0, rfl, rfl, rfl, rfl, by omega, ⟨by rw [HPB.out]; rfl⟩, HN, HO, HB, rfl⟩
                case round =>
                  clear HN HO HB
                  obtain ⟨i, b, m, q, rfl, rfl, rfl, rfl, hi, HP, HN, HO, HB, rfl⟩ := hrel
                  by_cases hli : i < bs.length
                  · obtain ⟨c, hcl, hFK, hcc, hfr⟩ := Kd.N_elem HN.out [] (i : Int) (by omega) (by omega)
                    obtain ⟨Ab, cb, rfl, hcb, hF⟩ := Kd.FK_slice_open hFK
                    have hx := hcc 0 _ rfl
                    rw [show dBox.sz = 1 from rfl, Int.toNat_natCast, Nat.mul_one, Nat.add_zero] at hx
                    rw [Int.toNat_natCast] at hcb hF
                    obtain ⟨box, hbox⟩ : ∃ box, box = bs.getD i [] := ⟨_, rfl⟩
                    rw [← hbox] at hx hcb hF
                    have hbm : box ∈ bs := by rw [hbox, List.getD_eq_getElem?_getD, List.getElem?_eq_getElem hli]; exact List.getElem_mem hli
                    have hbl := HBO.out.2.1 box hbm
                    obtain ⟨kw, hkw⟩ := (spec_l21Wide.ev box (HBO.out.1 box hbm) (by omega)).rounds
                    have hdr : bs.drop i = box :: bs.drop (i + 1) := by rw [List.drop_eq_getElem_cons hli, hbox, List.getD_eq_getElem?_getD, List.getElem?_eq_getElem hli]; rfl
                    have hp := HP.out
                    rw [hdr] at hp
                    simp only [pickGo] at hp
                    obtain ⟨d1, hd1⟩ : ∃ d1, d1 = (wideM box).1 := ⟨_, rfl⟩
                    obtain ⟨d2, hd2⟩ : ∃ d2, d2 = (wideM box).2 := ⟨_, rfl⟩
                    rw [← hd1, ← hd2] at hp
                    have HKW := Aside0.mk (show spec_l21Wide.f kw box = some (d1, d2) by rw [hkw, hd1, hd2])
                    have HP2 := Aside0.mk hp
                    have HCB := Aside0.mk hcb
                    have HFC := Aside0.mk (Kd.F_now hF)
                    clear hcl hFK hcc hfr hcb hF hbox hbm hkw hdr hp hd1 hd2 hbl
                    by_cases hd : d1 > m
                    · have hdd : decide (m < d1) = true := decide_eq_true hd
                      have hp := HP2.out
                      rw [if_pos hd] at hp
                      have HP3 := Aside0.mk hp
                      clear hp hd
                      go_wp2_with fail
                      refine (spec_l21Wide.calls kw Ab cb box d1 d2 _ HFC.out HCB.out HKW.out).mono ?_
                      rintro e_ w_ ⟨rfl, ⟨nd3, rfl⟩⟩
                      go_wp2
                      go_roundg (bs.length - (i + 1) + 1)
                      case rel => exact ⟨i + 1, i, d1, d2, rfl, rfl, rfl, by go_num, by omega, ⟨by rw [← HP3.out]; congr 1⟩, ⟨Kd.N_drewN HN.out _⟩, ⟨Kd.S_drewN HO.out _⟩, ⟨pw_below_drewN HB.out _⟩, rfl⟩
                      case measure => simp; omega
                    · have hdd : decide (m < d1) = false := decide_eq_false (by omega)
                      have hp := HP2.out
                      rw [if_neg hd] at hp
                      have HP3 := Aside0.mk hp
                      clear hp hd
                      go_wp2_with fail
                      refine (spec_l21Wide.calls kw Ab cb box d1 d2 _ HFC.out HCB.out HKW.out).mono ?_
                      rintro e_ w_ ⟨rfl, ⟨nd3, rfl⟩⟩
                      go_wp2
                      go_roundg (bs.length - (i + 1) + 1)
                      case rel => exact ⟨i + 1, b, m, q, rfl, rfl, rfl, by go_num, by omega, ⟨by rw [← HP3.out]; congr 1⟩, ⟨Kd.N_drewN HN.out _⟩, ⟨Kd.S_drewN HO.out _⟩, ⟨pw_below_drewN HB.out _⟩, rfl⟩
                      case measure => simp; omega
                  · obtain rfl : i = bs.length := by omega
                    have hp := HP.out
                    rw [List.drop_length] at hp
                    simp only [pickGo] at hp
                    subst hp
                    simp only [] at hwide
                    by_cases hb0 : b < 0
                    · have hbd : decide (b < 0) = true := decide_eq_true hb0
                      have hpn : partM bs = none := by unfold partM; rw [← HPB.out, if_pos hb0]
                      have HPN := Aside0.mk hpn
                      clear hpn hb0
                      go_wp2_with fail
                      go_meet
                      case rel => exact ⟨bs, HN, HBO, ⟨by rw [← HG.out]; exact palGo_stop _ _ _ (.inr HPN.out)⟩, HO, HB⟩
                    · have hbd : decide (b < 0) = false := decide_eq_false hb0
                      obtain ⟨nb, rfl⟩ : ∃ nb : Nat, b = nb := ⟨b.toNat, by omega⟩
                      have hnb : nb < bs.length := by omega
                      have hw2 := pickM_wide bs HBO.out.1 (by rw [← HPB.out]; simp only []; omega)
                      rw [← HPB.out] at hw2
                      simp only [Int.toNat_natCast] at hw2
                      obtain ⟨c, hcl, hFK, hcc, hfr⟩ := Kd.N_elem HN.out [] (nb : Int) (by omega) (by omega)
                      obtain ⟨Ab, cb, rfl, hcb, hF⟩ := Kd.FK_slice_open hFK
                      have hx := hcc 0 _ rfl
                      have hfz := hfr 0
                      rw [show dBox.sz = 1 from rfl, Int.toNat_natCast, Nat.mul_one, Nat.add_zero] at hx hfz
                      rw [Int.toNat_natCast] at hcb hF
                      obtain ⟨box, hbox⟩ : ∃ box, box = bs.getD nb [] := ⟨_, rfl⟩
                      have HBX := Aside0.mk hbox
                      rw [← hbox] at hx hcb hF hw2
                      have hbm : box ∈ bs := by rw [hbox, List.getD_eq_getElem?_getD, List.getElem?_eq_getElem hnb]; exact List.getElem_mem hnb
                      have hbl := HBO.out.2.1 box hbm
                      obtain ⟨ks, hks⟩ := (spec_l21Sort.ev box (HBO.out.1 box hbm) (by omega) q (by omega) (by omega)).rounds
                      have hsl := sortM_length box (HBO.out.1 box hbm) q (by omega) (by omega)
                      obtain ⟨s, hs⟩ : ∃ s, s = sortM box q := ⟨_, rfl⟩
                      rw [← hs] at hks hsl
                      have HSS := Aside0.mk hs
                      have HKS := Aside0.mk hks
                      have HV := Aside0.mk (show Kd.V (Kd.slice 3 (Kd.int .i64)) 25 wr wr.heap.size (fun k => k ≠ g ∧ some k ≠ (v5 : Value).ownBlock) (.slice Ab box.length cb) box from Kd.V_mk hcb (Kd.F_mono hF (fun k hk => ⟨hk.2, hk.1.2⟩)))
                      have hs2 : 2 ≤ s.length ∧ s.length ≤ 4096 := by omega
                      have hgw : g < wr.heap.size := Kd.N_lt HN.out g rfl
                      have HV5 := Aside0.mk (s_not HO.out).2
                      clear hcl hFK hcc hfr hcb hF hbox hbm hks hs hbl hsl hw2
                      go_wp2_with fail
                      refine (spec_l21Sort.calls ks (fun k => k ≠ g ∧ some k ≠ (v5 : Value).ownBlock) Ab cb box q s _ HV.out HKS.out).mono ?_
                      rintro e_ w4 ⟨v13, rfl, hs4, hb4⟩
                      obtain ⟨As, cs, es⟩ := Kd.N_slice hs4
                      subst es
                      have HS4 := Aside0.mk hs4
                      have HN4 := Aside0.mk (Kd.N_below HN.out hb4)
                      have HO4 := Aside0.mk (Kd.S_below HO.out hb4)
                      have HB4 := Aside0.mk (Below.trans HB.out (hb4.mono HB.out.size))
                      have hxc := hb4.cell (World.block_lt_of_cell? wr _ hx)
                      have hx4 := hxc.trans hx
                      have hfz4 := (hb4.frozen (World.block_lt_of_cell? wr _ hx)).trans hfz
                      clear hs4 hb4 hx hfz hxc HN HO HB
                      have hcs := (Kd.N_reads' HS4.out).2.1
                      have hne : cs ≠ s.length / 2 := by omega
                      have hh1 : s.length / 2 ≤ cs := by omega
                      have hh2 : s.length / 2 ≤ s.length := by omega
                      obtain ⟨cells2, hblk2⟩ := Kd.N_typed HN4.out g rfl
                      have HBK := Aside0.mk hblk2
                      have HF4 := Aside0.mk (Kd.F_mono (ok' := (fun k => k ≠ g ∧ some k ≠ (v5 : Value).ownBlock)) (Kd.N_F HS4.out) (fun k hk => by rcases hk with h | h; exact h; exact ⟨by omega, HV5.out k h⟩))
                      have hsg : Aside0 (Kd.N dBox 24 (w4.setCell ⟨g, nb, none⟩ (.slice As (s.length / 2) cs)) w.heap.size (fun k => True ∧ some k ≠ (v5 : Value).ownBlock) (.slice (some ⟨g, 0, none⟩) bs.length cap) (bs.set nb (s.take (s.length / 2))) ∧ w4.grownBy (w4.setCell ⟨g, nb, none⟩ (.slice As (s.length / 2) cs)) (some g)) := by
                        obtain ⟨c, hcl, _, hcc, _⟩ := Kd.N_elem HN4.out [] (nb : Int) (by omega) (by omega)
                        obtain ⟨u, rfl⟩ := List.length_eq_one_iff.1 hcl
                        have hft := Kd.FK_slice_mk (e := 25) (c := cs) (by rw [List.length_take]; omega) (Kd.F_take HF4.out hh2)
                        have hl3 : (s.take (s.length / 2)).length = s.length / 2 := by rw [List.length_take]; omega
                        rw [hl3] at hft
                        have := Kd.N_seg HN4.out (nb : Int) (by omega) (by omega) (seg := [.slice As (s.length / 2) cs]) (j := 0) hcl hcc (by show 0 + 1 ≤ 1; omega) (x' := s.take (s.length / 2)) (okp := (fun k => k ≠ g ∧ some k ≠ (v5 : Value).ownBlock)) (by simpa using hft) (fun k hk => ⟨⟨trivial, hk.2⟩, hk.1⟩)
                        rw [show dBox.sz = 1 from rfl, Int.toNat_natCast, Nat.mul_one, Nat.add_zero] at this
                        exact ⟨this⟩
                      clear hblk2
                      go_upto_region 20 with (fail)
                      have HO5 := Aside0.mk (Kd.S_mono (ok' := fun k => k ≠ g) (Kd.S_far (p := ⟨g, nb, none⟩) (Kd.S_types HO4.out HBK.out (by decide)) (fun k hk => hk.2) (.slice As (s.length / 2) cs)) (fun k hk => hk.2))
                      have HN5 := Aside0.mk hsg.out.1
                      have HF5 := Aside0.mk (Kd.F_grown HF4.out hsg.out.2 (fun k hk => by simpa using hk.1))
                      have HB5 := Aside0.mk (below_set HB4.out hgb (j := nb) (v := .slice As (s.length / 2) cs))
                      generalize w4.setCell ⟨g, nb, none⟩ (.slice As (s.length / 2) cs) = w5 at HO5 HN5 HF5 HB5 ⊢
                      clear hsg HF4 HO4 HN4 HB4 HS4 HBK hx4 hfz4
                      have hfk : Kd.FK dBox w5 (fun k => k ≠ g ∧ some k ≠ (v5 : Value).ownBlock) (s.drop (s.length / 2)) [.slice (As.map (·.add (s.length / 2))) (s.length - s.length / 2) (cs - s.length / 2)] := by
                        have h1 := Kd.F_cut HF5.out hh2 hcs
                        rw [if_neg hne, show (Kd.slice 3 (Kd.int .i64)).sz = 1 from rfl, Nat.mul_one] at h1
                        have h2 := Kd.FK_slice_mk (e := 25) (c := cs - s.length / 2) (by rw [List.length_drop]; omega) h1
                        rw [List.length_drop] at h2
                        exact h2
                      have HFK := Aside0.mk hfk
                      have HV6 := Aside0.mk (s_not HO5.out).2
                      clear hfk
                      go_wp2_with (first | ((with_reducible refine gate_builtin (b := .append) (xs := #[.tmp 76, .tmp 82]) rfl ?_); at_builtin; go_loud (refine Kd.N_append dBox (w0 := w) w.heap.size rfl (.tmp 76) (.tmp 82) 55 24 (.slice none 0 0) 24 rfl Try.underlying55 info24 rfl (by decide) (by omega) (.slice (some ⟨g, 0, none⟩) bs.length cap) (bs.set nb (s.take (s.length / 2))) (s.drop (s.length / 2)) [.slice (As.map (·.add (s.length / 2))) (s.length - s.length / 2) (cs - s.length / 2)] (fun k => True ∧ some k ≠ (v5 : Value).ownBlock) (fun k => k ≠ g ∧ some k ≠ (v5 : Value).ownBlock) rfl rfl HFK.out (fun k hk => ⟨⟨trivial, hk.2⟩, by simpa [Value.ownBlock] using hk.1⟩) (fun k hk => ⟨trivial, HV6.out k hk⟩) HN5.out HB5.out HB5.out.size (by rw [List.length_set]; omega) ?_; intro v83 w6 ho hb hg hat); have HN6 := Aside0.mk ho; have HB6 := Aside0.mk hb; have HO6 := Aside0.mk (Kd.S_mono (ok' := fun _ => True) (Kd.S_grown HO5.out hg (fun k hk => by simpa [Value.ownBlock] using hk)) (fun _ _ => trivial)); clear ho hb hg hat))
                      go_roundg (a1.toNat - (bs.length + 1) + 1)
                      case rel =>
                        obtain ⟨f', rfl⟩ : ∃ f', f = f' + 1 := ⟨f - 1, by omega⟩
                        have hpm : partM bs = some (bs.set nb (s.take (s.length / 2)) ++ [s.drop (s.length / 2)]) := by
                          unfold partM
                          rw [← HPB.out]
                          simp only [Int.toNat_natCast]
                          rw [if_neg (by omega), ← HBX.out, ← HSS.out]
                        have hpo := partM_ok HBO.out (by omega) hpm
                        refine ⟨_, f', HN6, ⟨hpo.1⟩, ⟨?_⟩, HO6, HB6, by rw [hpo.2]; omega, by rw [hpo.2]; omega, by rw [hpo.2]⟩
                        rw [← HG.out]
                        simp only [palGo]
                        rw [if_pos hlt, hpm]
                      case measure => simp; omega
              · go_wp2_with fail
                go_meet
                case rel => exact ⟨bs, HN, HBO, ⟨by rw [← HG.out]; exact palGo_stop _ _ _ (.inl (by omega))⟩, HO, HB⟩
          case rest =>
            clear HN HO3 HB3 HO2 HB2
            obtain ⟨bs, HN, HBO, HG, HO, HB⟩ := hcut
            have hrl := HH.out
            rw [HG.out] at hrl
            have HRR := Aside0.mk hrl
            obtain ⟨Ab6, cb6, e6⟩ := Kd.N_slice HN.out
            subst e6
            clear hrl
            go_wp2_with fail
            go_loopg [5, 14] (bs.length + 1) (fun kq v5 v14 w' => ∃ i : Nat, v14 = .int .i64 i ∧ i ≤ bs.length ∧ kq = bs.length - i + 1 ∧ Aside0 (Kd.S (Kd.slice 3 (Kd.int .i64)) 25 w' w.heap.size (fun _ => True) v5 ((bs.take i).map meanM)) ∧ Aside0 (Kd.N dBox 24 w' w.heap.size (fun k => True ∧ some k ≠ (v5 : Value).ownBlock) (.slice Ab6 bs.length cb6) bs) ∧ Aside0 (Below w.heap.size w w'))
            case atStart => exact ⟨0, rfl, by omega, rfl, ⟨by simpa using HO.out⟩, HN, HB⟩
            case round =>
              clear HN HO HB
              obtain ⟨i, rfl, hi, rfl, HO, HN, HB⟩ := hrel
              by_cases hli : i < bs.length
              · obtain ⟨g, cap, e6, hgb, hgl, _⟩ := Kd.N_form HN.out (by omega)
                injection e6 with e6 _ e7
                subst e6
                clear e7
                obtain ⟨box, hbox⟩ : ∃ box, box = bs.getD i [] := ⟨_, rfl⟩
                have hbm : box ∈ bs := by rw [hbox, List.getD_eq_getElem?_getD, List.getElem?_eq_getElem hli]; exact List.getElem_mem hli
                have hbl := HBO.out.2.1 box hbm
                have hb256 := HBO.out.2.2
                have HPX := Aside0.mk (HBO.out.1 box hbm)
                have HTK := Aside0.mk (show (bs.take (i + 1)).map meanM = (bs.take i).map meanM ++ [meanM box] by rw [List.take_succ_eq_append_getElem hli, List.map_append, hbox, List.getD_eq_getElem?_getD, List.getElem?_eq_getElem hli]; rfl)
                have HBX := Aside0.mk hbox
                obtain ⟨Nb, hNb⟩ : ∃ Nb, Nb = wr.heap.size := ⟨_, rfl⟩
                have HSb := Aside0.mk (show Kd.S (Kd.slice 3 (Kd.int .i64)) 25 wr w.heap.size (fun k => k < Nb) u5 ((bs.take i).map meanM) from Kd.S_mono (Kd.S_bound HO.out) (fun k hk => by rw [hNb]; exact hk.2.2.1))
                have HNb := Aside0.mk (show Nb ≤ wr.heap.size by omega)
                have HNw := Aside0.mk (Kd.N_mono (ok' := fun k => (True ∧ some k ≠ (u5 : Value).ownBlock) ∧ k < Nb) (Kd.N_bound HN.out) (fun k hk => ⟨hk.1, by rw [hNb]; exact hk.2⟩))
                clear hbox hbm HO hNb
                go_wp2_with (first | ((with_reducible refine gate_dst (N := 90) rfl ?_); refine Kd.R_lit (w0 := w) (Kd.int .i64) w.heap.size 3 ?hg (N := 90) ?hd (xs := ([] : List Int)) (inner := []) (ok := fun k => Nb ≤ k) (okp := fun _ => False) ?hr ?hp (fun _ hk => hk.elim) HNb.out HB.out HB.out.size (by simp) ?_; (case hd => rfl); (case hg => rfl); (case hr => first | (go_simp; done) | (go_simp; rfl)); (case hp => exact (Reps.none _ _)); intro v15 w1 ho hb hg_ hnew_; have HP1 := Aside0.mk ho; have HB1 := Aside0.mk hb; have HS1 := Aside0.mk (Kd.S_grown HSb.out hg_ (fun _ _ => by simp)); have HN1 := Aside0.mk (Kd.N_grown HNw.out hg_ (fun _ _ => by simp)); have HNb1 := Aside0.mk (Nat.le_trans HNb.out hg_.size); clear ho hb hg_ hnew_))
                clear HB HSb HN HNb HNw
                go_loopg [15, 16] (4) (fun kq v15 v16 w' => ∃ j : Nat, v16 = .int .i64 j ∧ j ≤ 3 ∧ kq = 3 - j + 1 ∧ Aside0 (Kd.R (Kd.int .i64) 3 w' w.heap.size (fun k => Nb ≤ k) v15 ((meanM box).take j)) ∧ Aside0 (Kd.S (Kd.slice 3 (Kd.int .i64)) 25 w' w.heap.size (fun k => k < Nb) u5 ((bs.take i).map meanM)) ∧ Aside0 (Kd.N dBox 24 w' w.heap.size (fun k => (True ∧ some k ≠ (u5 : Value).ownBlock) ∧ k < Nb) (.slice (some ⟨g, 0, none⟩) bs.length cb6) bs) ∧ Aside0 (Below w.heap.size w w') ∧ Aside0 (Nb ≤ w'.heap.size))
                case atStart => exact ⟨0, rfl, by omega, rfl, HP1, HS1, HN1, HB1, HNb1⟩
                case round =>
                  clear HP1 HS1 HN1 HB1 HNb1
                  obtain ⟨j, rfl, hj, rfl, HP, HS, HN, HB, HNb⟩ := hrel
                  by_cases hlj : j < 3
                  · have hsum := sumJ_in j (by omega) (by omega) box HPX.out
                    go_wp2_with fail
                    go_loopg [17, 18] (box.length + 1) (fun kq v17 v18 w' => ∃ n : Nat, v18 = .int .i64 n ∧ n ≤ box.length ∧ v17 = .int .i64 (sumJ j (box.take n)) ∧ kq = box.length - n + 1 ∧ Aside0 (Kd.R (Kd.int .i64) 3 w' w.heap.size (fun k => Nb ≤ k) u15 ((meanM box).take j)) ∧ Aside0 (Kd.S (Kd.slice 3 (Kd.int .i64)) 25 w' w.heap.size (fun k => k < Nb) u5 ((bs.take i).map meanM)) ∧ Aside0 (Kd.N dBox 24 w' w.heap.size (fun k => (True ∧ some k ≠ (u5 : Value).ownBlock) ∧ k < Nb) (.slice (some ⟨g, 0, none⟩) bs.length cb6) bs) ∧ Aside0 (Below w.heap.size w w') ∧ Aside0 (Nb ≤ w'.heap.size))
                    case atStart => exact ⟨0, rfl, by omega, rfl, rfl, HP, HS, HN, HB, HNb⟩
                    case round =>
                      clear HP HS HN HB HNb
                      obtain ⟨n, rfl, hn, rfl, rfl, HP, HS, HN, HB, HNb⟩ := hrel
                      obtain ⟨c, hcl, hFK, hcc, hfr⟩ := Kd.N_elem HN.out [] (i : Int) (by omega) (by omega)
                      obtain ⟨Ab, cb, rfl, hcb, hF⟩ := Kd.FK_slice_open hFK
                      have hx := hcc 0 _ rfl
                      rw [show dBox.sz = 1 from rfl, Int.toNat_natCast, Nat.mul_one, Nat.add_zero] at hx
                      rw [Int.toNat_natCast] at hcb hF
                      rw [← HBX.out] at hx hcb hF
                      clear hcl hFK hcc hfr hcb
                      by_cases hln : n < box.length
                      · obtain ⟨ad, A1, c1, e1, hy, hl1, hi1⟩ := at_L2 (Kd.F_now hF) (n : Int) (by omega) (by omega)
                        cases e1
                        rw [Int.toNat_natCast] at hy
                        have hgl : rd_L2 box n = box[n] := by simp [rd_L2, hln]
                        rw [hgl] at hy hl1 hi1
                        have hpx := px_rd (HPX.out _ (List.getElem_mem hln)) j (by omega) (by omega)
                        obtain ⟨ap, e2, hz⟩ := Kd.at_int hi1 (j : Int) (by omega) (by omega)
                        cases e2
                        rw [Int.toNat_natCast] at hz
                        have hst := sumJ_take j box n hln
                        have htk := sumJ_in j (by omega) (by omega) (box.take n) (fun q hq => HPX.out q (List.mem_of_mem_take hq))
                        have htl : (box.take n).length ≤ n := by rw [List.length_take]; omega
                        obtain ⟨sm, hsm⟩ : ∃ sm, sm = sumJ j (box.take n) := ⟨_, rfl⟩
                        obtain ⟨pv, hpv⟩ : ∃ pv, pv = rd box[n] j := ⟨_, rfl⟩
                        rw [← hsm, ← hpv] at hst
                        rw [← hsm] at htk ⊢
                        rw [← hpv] at hz hpx
                        have hw1 : wrap64 (sm + pv) = sm + pv := wrap_in _ (by omega) (by omega)
                        have hpl := hpx.2.2
                        rw [hpl] at hy
                        have HST := Aside0.mk hst
                        have h3 : (3 : Nat) = 3 := rfl
                        clear hgl hl1 hi1 hst hsm hpv hF hpx h3 htk htl hpl
                        go_wp2
                        go_roundg (box.length - (n + 1) + 1)
                        case rel => exact ⟨n + 1, by go_num, by omega, by rw [HST.out, hw1], rfl, HP, HS, HN, HB, HNb⟩
                        case measure => simp; omega
                      · obtain rfl : n = box.length := by omega
                        rw [List.take_length]
                        have HRV := Aside0.mk (spec_l05Round.val (sumJ j box) box.length hsum.1 (by omega) (by omega) (by omega))
                        obtain ⟨rv, hrv⟩ : ∃ rv, rv = rndM (sumJ j box) box.length := ⟨_, rfl⟩
                        rw [← hrv] at HRV
                        have HMT := Aside0.mk (meanM_take box j hlj)
                        rw [← hrv] at HMT
                        have hml : ((meanM box).take j).length ≤ 3 := by rw [List.length_take]; omega
                        clear hrv hF
                        go_wp2_with fail
                        refine (spec_l05Round.calls (sumJ j box) box.length rv _ HRV.out).mono ?_
                        rintro e_ w_ ⟨rfl, ⟨nd5, rfl⟩⟩
                        have HP5 := Aside0.mk (Kd.R_drewN HP.out nd5)
                        have HS5 := Aside0.mk (Kd.S_drewN HS.out nd5)
                        have HN5 := Aside0.mk (Kd.N_drewN HN.out nd5)
                        have HB5 := Aside0.mk (pw_below_drewN HB.out nd5)
                        have HNb5 : Aside0 (Nb ≤ (wr.drewN nd5).heap.size) := ⟨HNb.out⟩
                        have hnn := HNb5.out
                        generalize wr.drewN nd5 = w5 at HP5 HS5 HN5 HB5 HNb5 hnn ⊢
                        clear HP HS HN HB HNb
                        go_wp2_with (first | ((with_reducible refine gate_builtin (b := .append) (xs := #[.tmp 116, .tmp 124]) rfl ?_); at_builtin; go_loud (refine Kd.R_append (Kd.int .i64) (w0 := w) w.heap.size rfl (.tmp 116) (.tmp 124) 25 3 (.int .i64 0) 8 rfl Try.underlying25 info3 rfl (by decide) (by omega) _ ((meanM box).take j) rv [.int .i64 rv] (fun k => Nb ≤ k) (fun _ => False) rfl rfl rfl (fun _ hk => hk.elim) (fun k hk => by omega) HP5.out HB5.out HB5.out.size (by omega) ?_; intro v125 w6 ho hb hg hat); have HP6 := Aside0.mk ho; have HB6 := Aside0.mk hb; have HG6 := Aside0.mk hg; clear ho hb hg hat))
                        have HPo := Aside0.mk (show ∀ k, Value.ownBlock u15 = some k → Nb ≤ k from HP5.out.1)
                        go_roundg (3 - (j + 1) + 1)
                        case rel =>
                          refine ⟨j + 1, by go_num, by omega, rfl, ⟨by rw [HMT.out]; exact HP6.out⟩, ⟨Kd.S_grown HS5.out HG6.out (fun k hk e => by have := HPo.out k e.symm; omega)⟩, ⟨Kd.N_grown HN5.out HG6.out (fun k hk e => by have := HPo.out k e.symm; have := hk.2; omega)⟩, HB6, ⟨Nat.le_trans HNb5.out HG6.out.size⟩⟩
                        case measure => simp; omega
                  · obtain rfl : j = 3 := by omega
                    have HP3 := Aside0.mk (show Kd.R (Kd.int .i64) 3 wr w.heap.size (fun k => Nb ≤ k) u15 (meanM box) from HP.out)
                    obtain ⟨A15, c15, e15⟩ := Kd.R_slice HP3.out
                    have hm3 : (meanM box).length = 3 := rfl
                    rw [hm3] at e15
                    subst e15
                    clear hm3
                    have hmo := Kd.M_row HP3.out
                    have HMO := Aside0.mk hmo
                    clear hmo HP
                    go_wp2_with (first | ((with_reducible refine gate_builtin (b := .append) (xs := #[.tmp 126, .tmp 128]) rfl ?_); at_builtin; go_loud (refine Kd.S_append (Kd.slice 3 (Kd.int .i64)) (w0 := w) w.heap.size rfl (.tmp 126) (.tmp 128) 24 25 (.slice none 0 0) 24 rfl Try.underlying24 info25 rfl (by decide) (by omega) u5 ((bs.take i).map meanM) (meanM box) [.slice A15 3 c15] (fun _ => True) (fun k => Nb ≤ k) rfl rfl HMO.out (fun k hk => ⟨trivial, fun e => by have := (Kd.S_R HS.out).1 k e.symm; omega⟩) (fun _ _ => trivial) (Kd.S_mono HS.out (fun k hk => ⟨trivial, by omega⟩)) HB.out HB.out.size (by rw [List.length_map, List.length_take]; have := HBO.out.2.2; omega) ?_; intro v129 w6 ho hb hg hat); have HO6 := Aside0.mk ho; have HB6 := Aside0.mk hb; have HG6 := Aside0.mk (Kd.N_after (Kd.N_mono (ok' := (fun k => True ∧ some k ≠ (u5 : Value).ownBlock)) HN.out (fun k hk => hk.1)) hg hat); clear ho hb hg hat))
                    go_roundg (bs.length - (i + 1) + 1)
                    case rel =>
                      refine ⟨i + 1, by go_num, by omega, rfl, ⟨by rw [HTK.out]; exact HO6.out⟩, HG6, HB6⟩
                    case measure => simp; omega
              · obtain rfl : i = bs.length := by omega
                go_wp2
                go_ret
                have := HRR.out
                rw [← this]
                exact ⟨_, rfl, by have h1 := HO.out; rwa [List.take_length] at h1, HB.out⟩
        · have hf : (decide (1 ≤ a1) && decide (a1 ≤ 256)) = false := by
            rw [Bool.eq_false_iff]; intro h; simp only [Bool.and_eq_true, decide_eq_true_eq] at h; exact hn h
          rw [hf] at hwi
          have HW := Aside0.mk hwi
          have HF := Aside0.mk hf
          clear hwi hf hn
          go_wp2_with fail
          refine (spec_PixelsOk.calls kp A0 c0 l0 true _ (Kd.C_below HR.out HB.out) HC.out HKP.out).mono ?_
          rintro e_ w_ ⟨rfl, ⟨nd, rfl⟩⟩
          go_wp2_with fail
          refine (spec_l01Between.calls a1 1 256 false _ HW.out).mono ?_
          rintro e_ w_ ⟨rfl, ⟨nd2, rfl⟩⟩
          go_wp2
          go_ret
          have := HDONE.out (by rw [HOK.out, HF.out, Bool.and_false])
          subst this
          exact ⟨_, rfl, by repeat (first | exact HO.out | refine Kd.S_drewN ?_ _), by repeat (first | exact HB.out | apply pw_below_drewN)⟩
  · cases h
theorem spec_Palette.calls (A0 : Option Addr) (c0 : Nat) (l0 : List (List Int)) (a1 : Int) (r : List (List Int)) (w : World) (hr0 : Kd.C (Kd.slice 3 (Kd.int .i64)) w A0 l0.length l0) (hc0 : l0.length ≤ c0) (h : spec_Palette.f l0 a1 = some r) :
    Calls Try.prog 19 #[.slice A0 l0.length c0, .int .i64 a1] w fun e w' => ∃ v0_ : Value, e = .returned v0_ ∧ Kd.R (Kd.slice 3 (Kd.int .i64)) 25 w' w.heap.size (fun _ => True) v0_ r ∧ Below w.heap.size w w' :=
  (spec_Palette.callsS A0 c0 l0 a1 r w hr0 hc0 h).mono fun _ _ ⟨v, he, hs, hb⟩ => ⟨v, he, (Kd.S_R hs), hb⟩
end Go.Proofs.Ytopebplddfhaeaa.G

namespace Go.Proofs.Ytopebplddfhaeaa.G
open Go.RowKit Go.Proofs.YtopebplddfhaeaaW.PrintWords Go.Proofs.YtopebplddfhaeaaW.PrintLast Go.Proofs.YtopebplddfhaeaaW.PrintMore
attribute [local go_sem] max2_int min2_int max_two min_two max_three min_three max_four min_four   -- for this text's walks alone
/-! ### spec_l21DrawColours: function 23 -/
mutual
def spec_l21DrawColours.j0 : Nat → List (List Int) → List Int → Int → Int → Option ((List (List Int)) × Int × Int)
  | 0, _, _, _, _ => none
  | k + 1, x3, x1000, x1001, x1002 => (spec_l01Cur_once.f x1000 x1001 x1002 30).bind fun bt166 => (if bt166.1 = true then (spec_l21DrawColours.l0 k x3 x1000 bt166.2.1 bt166.2.2) else (some (x3, bt166.2.1, bt166.2.2)))
def spec_l21DrawColours.l0 : Nat → List (List Int) → List Int → Int → Int → Option ((List (List Int)) × Int × Int)
  | 0, _, _, _, _ => none
  | k + 1, x3, x1000, x1001, x1002 => (spec_l01Cur_pick.f x1000 x1001 x1002 2).bind fun bt169 => (if (x3.length : Int) < (wrap64 (256 + bt169.1)) then (if x3.length < 5864062014805 then (spec_l21DrawColours.l0 k (x3 ++ [(([1, 2, 3] : List Int))]) x1000 bt169.2.1 bt169.2.2) else (none)) else (some (x3, bt169.2.1, bt169.2.2)))
end
def spec_l21DrawColours.f (k : Nat) (s0_0 : List Int) (s0_1 : Int) (s0_2 : Int) : Option ((List (List Int)) × Int × Int) := (spec_l21DrawPixels.f s0_0 s0_1 s0_2 40).bind fun bt147 => ((spec_l01Cur_pick.f s0_0 bt147.2.1 bt147.2.2 12).bind fun bt152 => ((spec_Palette.f bt147.1 (wrap64 (1 + bt152.1))).bind fun t155 => ((spec_l01Cur_once.f s0_0 bt152.2.1 bt152.2.2 3).bind fun bt158 => (if bt158.1 = true then ((spec_l21DrawPixels.f s0_0 bt158.2.1 bt158.2.2 20).bind fun bt161 => (spec_l21DrawColours.j0 k bt161.1 s0_0 bt161.2.1 bt161.2.2)) else (spec_l21DrawColours.j0 k t155 s0_0 bt158.2.1 bt158.2.2)))))
theorem spec_l21DrawColours.mono_l : ∀ k, (∀ y0 y1 y2 y3, LeO (spec_l21DrawColours.j0 k y0 y1 y2 y3) (spec_l21DrawColours.j0 (k + 1) y0 y1 y2 y3)) ∧ (∀ y0 y1 y2 y3, LeO (spec_l21DrawColours.l0 k y0 y1 y2 y3) (spec_l21DrawColours.l0 (k + 1) y0 y1 y2 y3))
  | 0 => ⟨fun _ _ _ _ r h => by simp [spec_l21DrawColours.j0] at h, fun _ _ _ _ r h => by simp [spec_l21DrawColours.l0] at h⟩
  | k + 1 => by
    obtain ⟨ih0, ih1⟩ := spec_l21DrawColours.mono_l k
    refine ⟨?_, ?_⟩
    · intro y0 y1 y2 y3
      unfold spec_l21DrawColours.j0
      repeat' first
      | (with_reducible exact ih0 _ _ _ _)
      | (with_reducible exact ih1 _ _ _ _)
      | (with_reducible exact LeO.refl _)
      | (with_reducible exact LeO.none _)
      | (with_reducible refine LeO.ite ?_ ?_)
      | (with_reducible refine LeO.bind ?_ (fun _ => ?_))
      | exact ih0 _ _ _ _
      | exact ih1 _ _ _ _
      | exact LeO.none _
      | refine LeO.ite ?_ ?_
      | refine LeO.bind ?_ (fun _ => ?_)
    · intro y0 y1 y2 y3
      unfold spec_l21DrawColours.l0
      repeat' first
      | (with_reducible exact ih0 _ _ _ _)
      | (with_reducible exact ih1 _ _ _ _)
      | (with_reducible exact LeO.refl _)
      | (with_reducible exact LeO.none _)
      | (with_reducible refine LeO.ite ?_ ?_)
      | (with_reducible refine LeO.bind ?_ (fun _ => ?_))
      | exact ih0 _ _ _ _
      | exact ih1 _ _ _ _
      | exact LeO.none _
      | refine LeO.ite ?_ ?_
      | refine LeO.bind ?_ (fun _ => ?_)
theorem spec_l21DrawColours.mono : ∀ a0 a1 a2 k, LeO (spec_l21DrawColours.f k a0 a1 a2) (spec_l21DrawColours.f (k + 1) a0 a1 a2) := by
  intro a0 a1 a2 k
  obtain ⟨ih0, ih1⟩ := spec_l21DrawColours.mono_l k
  unfold spec_l21DrawColours.f
  repeat' first
      | (with_reducible exact ih0 _ _ _ _)
      | (with_reducible exact ih1 _ _ _ _)
      | (with_reducible exact LeO.refl _)
      | (with_reducible exact LeO.none _)
      | (with_reducible refine LeO.ite ?_ ?_)
      | (with_reducible refine LeO.bind ?_ (fun _ => ?_))
      | exact ih0 _ _ _ _
      | exact ih1 _ _ _ _
      | exact LeO.none _
      | refine LeO.ite ?_ ?_
      | refine LeO.bind ?_ (fun _ => ?_)
set_option maxHeartbeats 8000000 in
set_option maxRecDepth 100000 in
theorem spec_l21DrawColours.calls (k : Nat) (g : Nat) (s0_0 : List Int) (s0_1 : Int) (s0_2 : Int) (r1 : List (List Int)) (r2 : Int) (r3 : Int) (w0 w : World) (hI : IsS61 w0 w g s0_0 s0_1 s0_2) (hB : Below w0.heap.size w0 w) (h : spec_l21DrawColours.f k s0_0 s0_1 s0_2 = some (r1, r2, r3)) :
    Calls Try.prog 23 #[.pointer (some ⟨g, 0, none⟩)] w fun e w' => ∃ v0_ : Value, e = .returned (v0_) ∧ Kd.R (Kd.slice 3 (Kd.int .i64)) 25 w' w.heap.size (fun _ => True) v0_ r1 ∧ IsS61 w0 w' g s0_0 r2 r3 ∧ Below w0.heap.size w0 w' ∧ KeepBut w w' g none := by
  have HI0 := Aside0.mk hI
  have HK := Aside0.mk (KeepBut.refl w g none)
  have HL := Aside0.mk hB.size
  clear hI
  have HW0 := Aside0.mk hB.size
  have HB := Aside0.mk hB
  clear hB
  have H : ((spec_l21DrawPixels.f s0_0 s0_1 s0_2 40).bind fun bt147 => ((spec_l01Cur_pick.f s0_0 bt147.2.1 bt147.2.2 12).bind fun bt152 => ((spec_Palette.f bt147.1 (wrap64 (1 + bt152.1))).bind fun t155 => ((spec_l01Cur_once.f s0_0 bt152.2.1 bt152.2.2 3).bind fun bt158 => (if bt158.1 = true then ((spec_l21DrawPixels.f s0_0 bt158.2.1 bt158.2.2 20).bind fun bt161 => (spec_l21DrawColours.j0 k bt161.1 s0_0 bt161.2.1 bt161.2.2)) else (spec_l21DrawColours.j0 k t155 s0_0 bt158.2.1 bt158.2.2)))))) = some (r1, r2, r3) := h
  clear h
  replace H := Option.bind_eq_some_iff.mp H
  obtain ⟨⟨t147, t150, t151⟩, A20, H⟩ := H
  replace H : ((spec_l01Cur_pick.f s0_0 t150 t151 12).bind fun bt152 => ((spec_Palette.f t147 (wrap64 (1 + bt152.1))).bind fun t155 => ((spec_l01Cur_once.f s0_0 bt152.2.1 bt152.2.2 3).bind fun bt158 => (if bt158.1 = true then ((spec_l21DrawPixels.f s0_0 bt158.2.1 bt158.2.2 20).bind fun bt161 => (spec_l21DrawColours.j0 k bt161.1 s0_0 bt161.2.1 bt161.2.2)) else (spec_l21DrawColours.j0 k t155 s0_0 bt158.2.1 bt158.2.2))))) = some (r1, r2, r3) := H
  have A2 := Aside0.mk A20
  clear A20
  replace H := Option.bind_eq_some_iff.mp H
  obtain ⟨⟨t152, t153, t154⟩, A30, H⟩ := H
  replace H : ((spec_Palette.f t147 (wrap64 (1 + t152))).bind fun t155 => ((spec_l01Cur_once.f s0_0 t153 t154 3).bind fun bt158 => (if bt158.1 = true then ((spec_l21DrawPixels.f s0_0 bt158.2.1 bt158.2.2 20).bind fun bt161 => (spec_l21DrawColours.j0 k bt161.1 s0_0 bt161.2.1 bt161.2.2)) else (spec_l21DrawColours.j0 k t155 s0_0 bt158.2.1 bt158.2.2)))) = some (r1, r2, r3) := H
  have A3 := Aside0.mk A30
  clear A30
  replace H := Option.bind_eq_some_iff.mp H
  obtain ⟨t155, A40, H⟩ := H
  replace H : ((spec_l01Cur_once.f s0_0 t153 t154 3).bind fun bt158 => (if bt158.1 = true then ((spec_l21DrawPixels.f s0_0 bt158.2.1 bt158.2.2 20).bind fun bt161 => (spec_l21DrawColours.j0 k bt161.1 s0_0 bt161.2.1 bt161.2.2)) else (spec_l21DrawColours.j0 k t155 s0_0 bt158.2.1 bt158.2.2))) = some (r1, r2, r3) := H
  have A4 := Aside0.mk A40
  clear A40
  replace H := Option.bind_eq_some_iff.mp H
  obtain ⟨⟨t158, t159, t160⟩, A50, H⟩ := H
  replace H : (if t158 = true then ((spec_l21DrawPixels.f s0_0 t159 t160 20).bind fun bt161 => (spec_l21DrawColours.j0 k bt161.1 s0_0 bt161.2.1 bt161.2.2)) else (spec_l21DrawColours.j0 k t155 s0_0 t159 t160)) = some (r1, r2, r3) := H
  have A5 := Aside0.mk A50
  clear A50
  have HC6 := Aside0.mk H
  clear H
  go_enter Try.func23, Try.ntmps23
  go_upto_if 11 with (first | ((with_reducible refine gate_callee (f := 33) rfl ?_); refine goesL_ (some 5) rfl rfl Try.func33 (by kernel_rfl) rfl #[.pointer (some ⟨g, 0, none⟩), .int .i64 40] rfl (by (try simp only [List.map_toArray, List.map_cons, List.map_nil]); first | done | rfl | (simp only [List.length_drop, List.length_take]; rfl)) ?_; (with_reducible refine (spec_l21DrawPixels.calls g s0_0 s0_1 s0_2 40 t147 t150 t151 w0 _ ?side1 ?side2 A2.out).mono ?_); (case side1 => repeat (first | (with_reducible first | exact HI0.out | apply IsS61.alloc | apply IsS61.drewN | apply IsS61.drew | apply IsS61.set_1 | apply IsS61.set_2) | exact HI0.out)); (case side2 => repeat (first | (with_reducible first | exact HB.out | apply below_alloc | apply pw_below_drewN | apply below_drew1 | refine below_set ?_ (IsS61.ge HI0.out)) | exact HB.out)); rintro e w7 ⟨v148, rfl, ho0, hi, hb, hk⟩; refine ⟨_, rfl, ?_⟩; have n0_ := Aside0.mk (Kd.R_lower ho0 (keep_size (w := w) (g := g) (row := none) (by repeat (first | (with_reducible first | exact HK.out | apply KeepBut.set_ | apply keep_drewN | apply keep_drew | apply keep_alloc) | exact HK.out)))); have n1_ := Aside0.mk (KeepBut.trans (by repeat (first | (with_reducible first | exact HK.out | apply KeepBut.set_ | apply keep_drewN | apply keep_drew | apply keep_alloc) | exact HK.out)) hk (.inl rfl)); have n2_ := Aside0.mk (hb); have n3_ := Aside0.mk (hi); clear HK; clear HB; clear HI0; have HO149 := n0_; have HK := n1_; have HB := n2_; have HI0 := n3_; clear n0_ n1_ n2_ n3_; (try clear hb); (try clear hb2); (try clear hk); (try clear hi); (try clear ho0)) | ((with_reducible refine gate_callee (f := 24) rfl ?_); refine goesL_ (some 7) rfl rfl Try.func24 (by kernel_rfl) rfl #[.pointer (some ⟨g, 0, none⟩), .int .i64 12] rfl (by (try simp only [List.map_toArray, List.map_cons, List.map_nil]); first | done | rfl | (simp only [List.length_drop, List.length_take]; rfl)) ?_; (with_reducible refine (spec_l01Cur_pick.calls g s0_0 t150 t151 12 t152 t153 t154 w0 _ ?side1 ?side2 A3.out).mono ?_); (case side1 => repeat (first | (with_reducible first | exact HI0.out | apply IsS61.alloc | apply IsS61.drewN | apply IsS61.drew | apply IsS61.set_1 | apply IsS61.set_2) | exact HI0.out)); (case side2 => repeat (first | (with_reducible first | exact HB.out | apply below_alloc | apply pw_below_drewN | apply below_drew1 | refine below_set ?_ (IsS61.ge HI0.out)) | exact HB.out)); rintro e w8 ⟨rfl, hi, hb, hk⟩; refine ⟨_, rfl, ?_⟩; have n0_ := Aside0.mk (Kd.R_mono (Kd.R_keep (IsS61.apart (show IsS61 w0 _ g s0_0 t150 t151 from by repeat (first | (with_reducible first | exact HI0.out | apply IsS61.alloc | apply IsS61.drewN | apply IsS61.drew | apply IsS61.set_1 | apply IsS61.set_2) | exact HI0.out)) (by (with_reducible repeat (first | apply Kd.R_alloc | apply Kd.R_drewN | apply Kd.R_drew)); exact HO149.out) (by decide)) hk (fun _ h => h.2)) (fun _ h => h.1)); have n1_ := Aside0.mk (KeepBut.trans (by repeat (first | (with_reducible first | exact HK.out | apply KeepBut.set_ | apply keep_drewN | apply keep_drew | apply keep_alloc) | exact HK.out)) hk (.inl rfl)); have n2_ := Aside0.mk (hb); have n3_ := Aside0.mk (hi); clear HO149; clear HK; clear HB; clear HI0; have HO149 := n0_; have HK := n1_; have HB := n2_; have HI0 := n3_; clear n0_ n1_ n2_ n3_; (try clear hb); (try clear hb2); (try clear hk); (try clear hi); obtain ⟨Ao9, co9, eo9⟩ := Kd.R_slice HO149.out; subst eo9) | ((with_reducible refine gate_callee (f := 19) rfl ?_); refine goesL_ (some 9) rfl rfl Try.func19 (by kernel_rfl) rfl #[.slice Ao9 t147.length co9, .int .i64 (wrap64 (1 + t152))] rfl (by (try simp only [List.map_toArray, List.map_cons, List.map_nil]); first | done | rfl | (simp only [List.length_drop, List.length_take]; rfl)) ?_; (with_reducible refine (spec_Palette.calls _ _ t147 (wrap64 (1 + t152)) t155 _ ?side1 ?side2 A4.out).mono ?_); (case side1 => repeat (first | exact (Kd.R_reads' HO149.out).2.2 | (with_reducible refine Kd.C_alloc ?_ _) | (with_reducible refine Kd.C_drewN ?_ _) | (with_reducible refine Kd.C_drew ?_))); (case side2 => exact (Kd.R_reads' HO149.out).2.1); rintro e w10 ⟨v156, rfl, ho0, hb⟩; refine ⟨_, rfl, ?_⟩; have n0_ := Aside0.mk (Kd.R_elder' (by (with_reducible repeat (first | apply Kd.R_alloc | apply Kd.R_drewN | apply Kd.R_drew)); exact HO149.out) (Kd.R_base ho0) hb); have n1_ := Aside0.mk (Kd.R_lower (Kd.R_new' ho0 (Kd.R_lt (by (with_reducible repeat (first | apply Kd.R_alloc | apply Kd.R_drewN | apply Kd.R_drew)); exact HO149.out))) (keep_size (w := w) (g := g) (row := none) (by repeat (first | (with_reducible first | exact HK.out | apply KeepBut.set_ | apply keep_drewN | apply keep_drew | apply keep_alloc) | exact HK.out)))); have n2_ := Aside0.mk (IsS61.below (by repeat (first | (with_reducible first | exact HI0.out | apply IsS61.alloc | apply IsS61.drewN | apply IsS61.drew | apply IsS61.set_1 | apply IsS61.set_2) | exact HI0.out)) hb); have n3_ := Aside0.mk (KeepBut.trans (by repeat (first | (with_reducible first | exact HK.out | apply KeepBut.set_ | apply keep_drewN | apply keep_drew | apply keep_alloc) | exact HK.out)) (KeepBut.of_below hb g none) (.inl rfl)); have n4_ := Aside0.mk (below_step (by repeat (first | (with_reducible first | exact HB.out | apply below_alloc | apply pw_below_drewN | apply below_drew1 | refine below_set ?_ (IsS61.ge HI0.out)) | exact HB.out)) hb); clear HO149; clear HI0; clear HK; clear HB; have HO149 := n0_; have HO157 := n1_; have HI0 := n2_; have HK := n3_; have HB := n4_; clear n0_ n1_ n2_ n3_ n4_; (try clear hb); (try clear hb2); (try clear hk); (try clear hi); (try clear ho0)) | ((with_reducible refine gate_callee (f := 25) rfl ?_); refine goesL_ (some 11) rfl rfl Try.func25 (by kernel_rfl) rfl #[.pointer (some ⟨g, 0, none⟩), .int .i64 3] rfl (by (try simp only [List.map_toArray, List.map_cons, List.map_nil]); first | done | rfl | (simp only [List.length_drop, List.length_take]; rfl)) ?_; (with_reducible refine (spec_l01Cur_once.calls g s0_0 t153 t154 3 t158 t159 t160 w0 _ ?side1 ?side2 A5.out).mono ?_); (case side1 => repeat (first | (with_reducible first | exact HI0.out | apply IsS61.alloc | apply IsS61.drewN | apply IsS61.drew | apply IsS61.set_1 | apply IsS61.set_2) | exact HI0.out)); (case side2 => repeat (first | (with_reducible first | exact HB.out | apply below_alloc | apply pw_below_drewN | apply below_drew1 | refine below_set ?_ (IsS61.ge HI0.out)) | exact HB.out)); rintro e w11 ⟨rfl, hi, hb, hk⟩; refine ⟨_, rfl, ?_⟩; have n0_ := Aside0.mk (Kd.R_mono (Kd.R_keep (IsS61.apart (show IsS61 w0 _ g s0_0 t153 t154 from by repeat (first | (with_reducible first | exact HI0.out | apply IsS61.alloc | apply IsS61.drewN | apply IsS61.drew | apply IsS61.set_1 | apply IsS61.set_2) | exact HI0.out)) (by (with_reducible repeat (first | apply Kd.R_alloc | apply Kd.R_drewN | apply Kd.R_drew)); exact HO149.out) (by decide)) hk (fun _ h => h.2)) (fun _ h => h.1)); have n1_ := Aside0.mk (Kd.R_mono (Kd.R_keep (IsS61.apart (show IsS61 w0 _ g s0_0 t153 t154 from by repeat (first | (with_reducible first | exact HI0.out | apply IsS61.alloc | apply IsS61.drewN | apply IsS61.drew | apply IsS61.set_1 | apply IsS61.set_2) | exact HI0.out)) (by (with_reducible repeat (first | apply Kd.R_alloc | apply Kd.R_drewN | apply Kd.R_drew)); exact HO157.out) (by decide)) hk (fun _ h => h.2)) (fun _ h => h.1)); have n2_ := Aside0.mk (KeepBut.trans (by repeat (first | (with_reducible first | exact HK.out | apply KeepBut.set_ | apply keep_drewN | apply keep_drew | apply keep_alloc) | exact HK.out)) hk (.inl rfl)); have n3_ := Aside0.mk (hb); have n4_ := Aside0.mk (hi); clear HO149; clear HO157; clear HK; clear HB; clear HI0; have HO149 := n0_; have HO157 := n1_; have HK := n2_; have HB := n3_; have HI0 := n4_; clear n0_ n1_ n2_ n3_ n4_; (try clear hb); (try clear hb2); (try clear hk); (try clear hi)))
  (try simp only [Act.put, List.setIfInBounds_toArray, List.set_cons_zero, List.set_cons_succ])
  go_cut [3] (fun v3 wc => ∃ (kq : Nat) (x3_5 : List (List Int)) (x1001_5 : Int) (x1002_5 : Int), Aside0 (spec_l21DrawColours.j0 kq x3_5 s0_0 x1001_5 x1002_5 = some (r1, r2, r3)) ∧ Aside0 (kq ≤ k) ∧ Aside0 (Kd.R (Kd.slice 3 (Kd.int .i64)) 25 wc w.heap.size (fun _ => True) v3 x3_5) ∧ Aside0 (IsS61 w0 wc g s0_0 x1001_5 x1002_5) ∧ Aside0 (KeepBut w wc g none) ∧ Aside0 (Below w0.heap.size w0 wc))
  case first =>
    have H := HC6.out
    clear HC6
    by_cases c12 : t158 = true
    · subst c12
      have H1 : ((spec_l21DrawPixels.f s0_0 t159 t160 20).bind fun bt161 => (spec_l21DrawColours.j0 k bt161.1 s0_0 bt161.2.1 bt161.2.2)) = some (r1, r2, r3) := by rw [if_pos rfl] at H; exact H
      clear H
      have H := H1
      clear H1
      replace H := Option.bind_eq_some_iff.mp H
      obtain ⟨⟨t161, t164, t165⟩, A130, H⟩ := H
      replace H : (spec_l21DrawColours.j0 k t161 s0_0 t164 t165) = some (r1, r2, r3) := H
      have A13 := Aside0.mk A130
      clear A130
      have H' := Aside0.mk H
      clear H
      go_wp2_with (first | ((with_reducible refine gate_callee (f := 33) rfl ?_); refine goesL_ (some 13) rfl rfl Try.func33 (by kernel_rfl) rfl #[.pointer (some ⟨g, 0, none⟩), .int .i64 20] rfl (by (try simp only [List.map_toArray, List.map_cons, List.map_nil]); first | done | rfl | (simp only [List.length_drop, List.length_take]; rfl)) ?_; (with_reducible refine (spec_l21DrawPixels.calls g s0_0 t159 t160 20 t161 t164 t165 w0 _ ?side1 ?side2 A13.out).mono ?_); (case side1 => repeat (first | (with_reducible first | exact HI0.out | apply IsS61.alloc | apply IsS61.drewN | apply IsS61.drew | apply IsS61.set_1 | apply IsS61.set_2) | exact HI0.out)); (case side2 => repeat (first | (with_reducible first | exact HB.out | apply below_alloc | apply pw_below_drewN | apply below_drew1 | refine below_set ?_ (IsS61.ge HI0.out)) | exact HB.out)); rintro e w14 ⟨v162, rfl, ho0, hi, hb, hk⟩; refine ⟨_, rfl, ?_⟩; have n0_ := Aside0.mk (Kd.R_mono (Kd.R_told (Kd.R_oldK (IsS61.apart (show IsS61 w0 _ g s0_0 t159 t160 from by repeat (first | (with_reducible first | exact HI0.out | apply IsS61.alloc | apply IsS61.drewN | apply IsS61.drew | apply IsS61.set_1 | apply IsS61.set_2) | exact HI0.out)) (by (with_reducible repeat (first | apply Kd.R_alloc | apply Kd.R_drewN | apply Kd.R_drew)); exact HO149.out) (by decide)) hk) (Kd.R_base ho0)) (fun _ h_ => h_.1)); have n1_ := Aside0.mk (Kd.R_mono (Kd.R_told (Kd.R_oldK (IsS61.apart (show IsS61 w0 _ g s0_0 t159 t160 from by repeat (first | (with_reducible first | exact HI0.out | apply IsS61.alloc | apply IsS61.drewN | apply IsS61.drew | apply IsS61.set_1 | apply IsS61.set_2) | exact HI0.out)) (by (with_reducible repeat (first | apply Kd.R_alloc | apply Kd.R_drewN | apply Kd.R_drew)); exact HO157.out) (by decide)) hk) (Kd.R_base ho0)) (fun _ h_ => h_.1)); have n2_ := Aside0.mk (Kd.R_lower (Kd.R_new' (Kd.R_new' ho0 (Kd.R_lt (by (with_reducible repeat (first | apply Kd.R_alloc | apply Kd.R_drewN | apply Kd.R_drew)); exact HO149.out))) (Kd.R_lt (by (with_reducible repeat (first | apply Kd.R_alloc | apply Kd.R_drewN | apply Kd.R_drew)); exact HO157.out))) (keep_size (w := w) (g := g) (row := none) (by repeat (first | (with_reducible first | exact HK.out | apply KeepBut.set_ | apply keep_drewN | apply keep_drew | apply keep_alloc) | exact HK.out)))); have n3_ := Aside0.mk (KeepBut.trans (by repeat (first | (with_reducible first | exact HK.out | apply KeepBut.set_ | apply keep_drewN | apply keep_drew | apply keep_alloc) | exact HK.out)) hk (.inl rfl)); have n4_ := Aside0.mk (hb); have n5_ := Aside0.mk (hi); clear HO149; clear HO157; clear HK; clear HB; clear HI0; have HO149 := n0_; have HO157 := n1_; have HO163 := n2_; have HK := n3_; have HB := n4_; have HI0 := n5_; clear n0_ n1_ n2_ n3_ n4_ n5_; (try clear hb); (try clear hb2); (try clear hk); (try clear hi); (try clear ho0)))
      go_meet
      case rel => exact ⟨_, (t161), (t164), (t165), H', ⟨by first | omega | exact Nat.le_refl _⟩, ⟨by (with_reducible repeat (first | apply Kd.R_alloc | apply Kd.R_drewN | apply Kd.R_drew)); exact Kd.R_mono HO163.out (fun _ hk => trivial)⟩, ⟨by repeat (first | (with_reducible first | exact HI0.out | apply IsS61.alloc | apply IsS61.drewN | apply IsS61.drew | apply IsS61.set_1 | apply IsS61.set_2) | exact HI0.out)⟩, ⟨by repeat (first | (with_reducible first | exact HK.out | apply KeepBut.set_ | apply keep_drewN | apply keep_drew | apply keep_alloc) | exact HK.out)⟩, ⟨by repeat (first | (with_reducible first | exact HB.out | apply below_alloc | apply pw_below_drewN | apply below_drew1 | refine below_set ?_ (IsS61.ge HI0.out)) | exact HB.out)⟩⟩
    · replace c12 := Bool.eq_false_iff.mpr c12
      subst c12
      have H1 : (spec_l21DrawColours.j0 k t155 s0_0 t159 t160) = some (r1, r2, r3) := by rw [if_neg (show ¬ (false = true) by decide)] at H; exact H
      clear H
      have H := H1
      clear H1
      have H' := Aside0.mk H
      clear H
      go_wp2
      go_meet
      case rel => exact ⟨_, (t155), (t159), (t160), H', ⟨by first | omega | exact Nat.le_refl _⟩, ⟨by (with_reducible repeat (first | apply Kd.R_alloc | apply Kd.R_drewN | apply Kd.R_drew)); exact Kd.R_mono HO157.out (fun _ hk => trivial)⟩, ⟨by repeat (first | (with_reducible first | exact HI0.out | apply IsS61.alloc | apply IsS61.drewN | apply IsS61.drew | apply IsS61.set_1 | apply IsS61.set_2) | exact HI0.out)⟩, ⟨by repeat (first | (with_reducible first | exact HK.out | apply KeepBut.set_ | apply keep_drewN | apply keep_drew | apply keep_alloc) | exact HK.out)⟩, ⟨by repeat (first | (with_reducible first | exact HB.out | apply below_alloc | apply pw_below_drewN | apply below_drew1 | refine below_set ?_ (IsS61.ge HI0.out)) | exact HB.out)⟩⟩
  case rest =>
    clear HC6
    try clear c1
    try clear c2
    try clear p2
    try clear c3
    try clear p6
    try clear c12
    obtain ⟨kq, x3_5, x1001_5, x1002_5, HA, HJ5, HO_3, HI0, HK, HB⟩ := hcut
    cases kq with
    | zero => exact absurd HA.out (by simp [spec_l21DrawColours.j0])
    | succ kj5 =>
      have H := HA.out
      clear HA
      simp only [spec_l21DrawColours.j0] at H
      replace H := Option.bind_eq_some_iff.mp H
      obtain ⟨⟨t166, t167, t168⟩, A150, H⟩ := H
      replace H : (if t166 = true then (spec_l21DrawColours.l0 kj5 x3_5 s0_0 t167 t168) else (some (x3_5, t167, t168))) = some (r1, r2, r3) := H
      have A15 := Aside0.mk A150
      clear A150
      by_cases c16 : t166 = true
      · subst c16
        have H1 : (spec_l21DrawColours.l0 kj5 x3_5 s0_0 t167 t168) = some (r1, r2, r3) := by rw [if_pos rfl] at H; exact H
        clear H
        have H := H1
        clear H1
        have H' := Aside0.mk H
        clear H
        go_wp2_with (first | ((with_reducible refine gate_callee (f := 25) rfl ?_); refine goesL_ (some 15) rfl rfl Try.func25 (by kernel_rfl) rfl #[.pointer (some ⟨g, 0, none⟩), .int .i64 30] rfl (by (try simp only [List.map_toArray, List.map_cons, List.map_nil]); first | done | rfl | (simp only [List.length_drop, List.length_take]; rfl)) ?_; (with_reducible refine (spec_l01Cur_once.calls g s0_0 x1001_5 x1002_5 30 true t167 t168 w0 _ ?side1 ?side2 A15.out).mono ?_); (case side1 => repeat (first | (with_reducible first | exact HI0.out | apply IsS61.alloc | apply IsS61.drewN | apply IsS61.drew | apply IsS61.set_1 | apply IsS61.set_2) | exact HI0.out)); (case side2 => repeat (first | (with_reducible first | exact HB.out | apply below_alloc | apply pw_below_drewN | apply below_drew1 | refine below_set ?_ (IsS61.ge HI0.out)) | exact HB.out)); rintro e w17 ⟨rfl, hi, hb, hk⟩; refine ⟨_, rfl, ?_⟩; have n0_ := Aside0.mk (Kd.R_mono (Kd.R_keep (IsS61.apart (show IsS61 w0 _ g s0_0 x1001_5 x1002_5 from by repeat (first | (with_reducible first | exact HI0.out | apply IsS61.alloc | apply IsS61.drewN | apply IsS61.drew | apply IsS61.set_1 | apply IsS61.set_2) | exact HI0.out)) (by (with_reducible repeat (first | apply Kd.R_alloc | apply Kd.R_drewN | apply Kd.R_drew)); exact HO_3.out) (by decide)) hk (fun _ h => h.2)) (fun _ h => h.1)); have n1_ := Aside0.mk (KeepBut.trans (by repeat (first | (with_reducible first | exact HK.out | apply KeepBut.set_ | apply keep_drewN | apply keep_drew | apply keep_alloc) | exact HK.out)) hk (.inl rfl)); have n2_ := Aside0.mk (hb); have n3_ := Aside0.mk (hi); clear HO_3; clear HK; clear HB; clear HI0; have HO_3 := n0_; have HK := n1_; have HB := n2_; have HI0 := n3_; clear n0_ n1_ n2_ n3_; (try clear hb); (try clear hb2); (try clear hk); (try clear hi)))
        simp [Act.put]
        go_loopg [3] kj5 (fun kq v3 w' => ∃ (x3_2 : List (List Int)) (x1001_2 : Int) (x1002_2 : Int), Aside0 (spec_l21DrawColours.l0 kq x3_2 s0_0 x1001_2 x1002_2 = some (r1, r2, r3)) ∧ Aside0 (kq ≤ kj5) ∧ Aside0 (Kd.R (Kd.slice 3 (Kd.int .i64)) 25 w' w.heap.size (fun _ => True) v3 x3_2) ∧ Aside0 (IsS61 w0 w' g s0_0 x1001_2 x1002_2) ∧ Aside0 (KeepBut w w' g none) ∧ Aside0 (Below w0.heap.size w0 w'))
        case atStart => exact ⟨(x3_5), (t167), (t168), H', ⟨Nat.le_refl _⟩, ⟨by (with_reducible repeat (first | apply Kd.R_alloc | apply Kd.R_drewN | apply Kd.R_drew)); exact HO_3.out⟩, ⟨by repeat (first | (with_reducible first | exact HI0.out | apply IsS61.alloc | apply IsS61.drewN | apply IsS61.drew | apply IsS61.set_1 | apply IsS61.set_2) | exact HI0.out)⟩, ⟨by repeat (first | (with_reducible first | exact HK.out | apply KeepBut.set_ | apply keep_drewN | apply keep_drew | apply keep_alloc) | exact HK.out)⟩, ⟨by repeat (first | (with_reducible first | exact HB.out | apply below_alloc | apply pw_below_drewN | apply below_drew1 | refine below_set ?_ (IsS61.ge HI0.out)) | exact HB.out)⟩⟩
        case round =>
          clear H'
          try clear c1
          try clear c2
          try clear p2
          try clear c3
          try clear p6
          try clear c12
          try clear c16
          try clear p2
          try clear p6
          obtain ⟨x3_2, x1001_2, x1002_2, HA, HK2, HO_3, HI0, HK, HB⟩ := hrel
          cases gk with
          | zero => exact absurd HA.out (by simp [spec_l21DrawColours.l0])
          | succ k2 =>
            have H := HA.out
            clear HA
            simp only [spec_l21DrawColours.l0] at H
            replace H := Option.bind_eq_some_iff.mp H
            obtain ⟨⟨t169, t170, t171⟩, A180, H⟩ := H
            replace H : (if (x3_2.length : Int) < (wrap64 (256 + t169)) then (if x3_2.length < 5864062014805 then (spec_l21DrawColours.l0 k2 (x3_2 ++ [(([1, 2, 3] : List Int))]) s0_0 t170 t171) else (none)) else (some (x3_2, t170, t171))) = some (r1, r2, r3) := H
            have A18 := Aside0.mk A180
            clear A180
            by_cases c19 : (x3_2.length : Int) < (wrap64 (256 + t169))
            · rw [if_pos c19] at H
              have c19b0 : decide ((x3_2.length : Int) < (wrap64 (256 + t169))) = true := decide_eq_true c19
              clear c19
              obtain ⟨y172, hy172⟩ : ∃ y_ : List Int, y_ = (([1, 2, 3] : List Int)) := ⟨_, rfl⟩
              replace H : (if x3_2.length < 5864062014805 then (spec_l21DrawColours.l0 k2 (x3_2 ++ [y172]) s0_0 t170 t171) else (none)) = some (r1, r2, r3) := by first | (rw [hy172]; with_reducible exact H) | (have H2_ := (Option.bind_some _ _).symm.trans H; rw [hy172]; with_reducible exact H2_) | (have H2_ := (Option.bind_some _ _).symm.trans H; with_reducible exact H2_) | with_reducible exact H | (rw [hy172]; exact H) | exact H
              have Ny172 := Aside0.mk hy172
              clear hy172
              by_cases c20 : x3_2.length < 5864062014805
              · rw [if_pos c20] at H
                have LMc20 := Aside0.mk c20
                clear c20
                obtain ⟨y175, hy175⟩ : ∃ y_ : List (List Int), y_ = (x3_2 ++ [y172]) := ⟨_, rfl⟩
                replace H : (spec_l21DrawColours.l0 k2 y175 s0_0 t170 t171) = some (r1, r2, r3) := by first | (rw [hy175]; with_reducible exact H) | (have H2_ := (Option.bind_some _ _).symm.trans H; rw [hy175]; with_reducible exact H2_) | (have H2_ := (Option.bind_some _ _).symm.trans H; with_reducible exact H2_) | with_reducible exact H | (rw [hy175]; exact H) | exact H
                have Ny175 := Aside0.mk hy175
                clear hy175
                have H' := Aside0.mk H
                clear H
                obtain ⟨Ao21, co21, eo21⟩ := Kd.R_slice HO_3.out
                subst eo21
                go_wp2_with (first | ((with_reducible refine gate_callee (f := 24) rfl ?_); refine goesL_ (some 19) rfl rfl Try.func24 (by kernel_rfl) rfl #[.pointer (some ⟨g, 0, none⟩), .int .i64 2] rfl (by (try simp only [List.map_toArray, List.map_cons, List.map_nil]); first | done | rfl | (simp only [List.length_drop, List.length_take]; rfl)) ?_; (with_reducible refine (spec_l01Cur_pick.calls g s0_0 x1001_2 x1002_2 2 t169 t170 t171 w0 _ ?side1 ?side2 A18.out).mono ?_); (case side1 => repeat (first | (with_reducible first | exact HI0.out | apply IsS61.alloc | apply IsS61.drewN | apply IsS61.drew | apply IsS61.set_1 | apply IsS61.set_2) | exact HI0.out)); (case side2 => repeat (first | (with_reducible first | exact HB.out | apply below_alloc | apply pw_below_drewN | apply below_drew1 | refine below_set ?_ (IsS61.ge HI0.out)) | exact HB.out)); rintro e w22 ⟨rfl, hi, hb, hk⟩; refine ⟨_, rfl, ?_⟩; have n0_ := Aside0.mk (Kd.R_mono (Kd.R_keep (IsS61.apart (show IsS61 w0 _ g s0_0 x1001_2 x1002_2 from by repeat (first | (with_reducible first | exact HI0.out | apply IsS61.alloc | apply IsS61.drewN | apply IsS61.drew | apply IsS61.set_1 | apply IsS61.set_2) | exact HI0.out)) (by (with_reducible repeat (first | apply Kd.R_alloc | apply Kd.R_drewN | apply Kd.R_drew)); exact HO_3.out) (by decide)) hk (fun _ h => h.2)) (fun _ h => h.1)); have n1_ := Aside0.mk (KeepBut.trans (by repeat (first | (with_reducible first | exact HK.out | apply KeepBut.set_ | apply keep_drewN | apply keep_drew | apply keep_alloc) | exact HK.out)) hk (.inl rfl)); have n2_ := Aside0.mk (hb); have n3_ := Aside0.mk (hi); clear HO_3; clear HK; clear HB; clear HI0; have HO_3 := n0_; have HK := n1_; have HB := n2_; have HI0 := n3_; clear n0_ n1_ n2_ n3_; (try clear hb); (try clear hb2); (try clear hk); (try clear hi)) | ((with_reducible refine gate_dst (N := 23) rfl ?_); refine Kd.R_lit (Kd.int .i64) _ 3 ?hg (N := 23) ?hd (xs := ([1, 2, 3] : List Int)) (inner := [.int .i64 1, .int .i64 2, .int .i64 3]) (ok := fun _ => True) (okp := fun _ => True) ?hr ?hp (fun _ hk => hk) trivial (Below.refl _ _) (Nat.le_refl _) (by simp) ?_; (case hd => rfl); (case hg => rfl); (case hr => first | (go_simp; done) | (go_simp; rfl)); (case hp => exact (Reps.one (show Kd.M (Kd.int .i64) _ _ _ 1 [.int .i64 1] from rfl) (Reps.one (show Kd.M (Kd.int .i64) _ _ _ 2 [.int .i64 2] from rfl) (Reps.one (show Kd.M (Kd.int .i64) _ _ _ 3 [.int .i64 3] from rfl) (Reps.none _ _))))); intro v173 w23 ho24 hb hg_ hnew_; clear hg_ hnew_; (first | rw [← Ny172.out] at ho24 | (simp only [Int.reduceToNat] at ho24; rw [← Ny172.out] at ho24)); have n0_ := Aside0.mk (Kd.R_elder' (by (with_reducible repeat (first | apply Kd.R_alloc | apply Kd.R_drewN | apply Kd.R_drew)); exact HO_3.out) (Kd.R_base ho24) hb); have n1_ := Aside0.mk (Kd.R_lower ho24 (keep_size (w := w) (g := g) (row := none) (by repeat (first | (with_reducible first | exact HK.out | apply KeepBut.set_ | apply keep_drewN | apply keep_drew | apply keep_alloc) | exact HK.out)))); have n2_ := Aside0.mk (IsS61.below (by repeat (first | (with_reducible first | exact HI0.out | apply IsS61.alloc | apply IsS61.drewN | apply IsS61.drew | apply IsS61.set_1 | apply IsS61.set_2) | exact HI0.out)) hb); have n3_ := Aside0.mk (KeepBut.trans (by repeat (first | (with_reducible first | exact HK.out | apply KeepBut.set_ | apply keep_drewN | apply keep_drew | apply keep_alloc) | exact HK.out)) (KeepBut.of_below hb g none) (.inl rfl)); have n4_ := Aside0.mk (below_step (by repeat (first | (with_reducible first | exact HB.out | apply below_alloc | apply pw_below_drewN | apply below_drew1 | refine below_set ?_ (IsS61.ge HI0.out)) | exact HB.out)) hb); clear HO_3; clear HI0; clear HK; clear HB; have HO_3 := n0_; have HO174 := n1_; have HI0 := n2_; have HK := n3_; have HB := n4_; clear n0_ n1_ n2_ n3_ n4_; clear hb ho24; obtain ⟨Ao26, co26, eo26⟩ := Kd.R_slice HO174.out; subst eo26) | ((with_reducible refine gate_builtin (b := .append) (xs := #[.tmp 22, .tmp 24]) rfl ?_); at_builtin; refine Kd.R_append (Kd.slice 3 (Kd.int .i64)) w.heap.size rfl (.tmp 22) (.tmp 24) 24 25 (.slice none 0 0) 24 rfl Try.underlying24 info25 rfl (by decide) (by omega) (.slice Ao21 x3_2.length co21) x3_2 y172 [.slice Ao26 y172.length co26] (fun _ => True) (fun k_ => ((fun _ => True)) k_ ∧ some k_ ≠ (.slice Ao21 x3_2.length co21 : Value).ownBlock) rfl rfl ?aP (fun _ hk => hk) ?aF ?aO (Below.refl _ _) ?aS ?aL ?_; (case aP => exact Kd.M_row (Kd.R_mono (Kd.R_apart' (HO174.out) (Kd.R_typed HO_3.out) (by decide)) (fun k_ hk => ⟨trivial, hk.2⟩))); (case aF => exact (fun _ _ => trivial)); (case aO => exact (by (with_reducible repeat (first | apply Kd.R_alloc | apply Kd.R_drewN | apply Kd.R_drew)); exact Kd.R_mono HO_3.out (fun _ hk => trivial))); (case aS => exact (keep_size (w := w) (g := g) (row := none) (by repeat (first | (with_reducible first | exact HK.out | apply KeepBut.set_ | apply keep_drewN | apply keep_drew | apply keep_alloc) | exact HK.out)))); (case aL => have := LMc20.out; omega); intro v176 w25 ho hb hg hat; rw [← Ny175.out] at ho; have n0_ := Aside0.mk (IsS61.grown (by repeat (first | (with_reducible first | exact HI0.out | apply IsS61.alloc | apply IsS61.drewN | apply IsS61.drew | apply IsS61.set_1 | apply IsS61.set_2) | exact HI0.out)) hg (IsS61.own_ne HI0.out HO_3.out (by decide))); have n1_ := Aside0.mk (below_weaken (by repeat (first | (with_reducible first | exact HB.out | apply below_alloc | apply pw_below_drewN | apply below_drew1 | refine below_set ?_ (IsS61.ge HI0.out)) | exact HB.out)) HL.out hb); have n2_ := Aside0.mk (KeepBut.trans (by repeat (first | (with_reducible first | exact HK.out | apply KeepBut.set_ | apply keep_drewN | apply keep_drew | apply keep_alloc) | exact HK.out)) (KeepBut.of_grown hg g) (Kd.R_base2 HO_3.out)); have n3_ := Aside0.mk (ho); clear HI0; clear HB; clear HK; clear HO_3; clear HO174; have HI0 := n0_; have HB := n1_; have HK := n2_; have HO177 := n3_; clear n0_ n1_ n2_ n3_; clear ho hb hg hat))
                go_roundg k2
                case measure => have := HJ5.out; have := HK2.out; omega
                case rel => exact ⟨(y175), (t170), (t171), H', ⟨by have := HJ5.out; have := HK2.out; omega⟩, ⟨by (with_reducible repeat (first | apply Kd.R_alloc | apply Kd.R_drewN | apply Kd.R_drew)); exact HO177.out⟩, ⟨by repeat (first | (with_reducible first | exact HI0.out | apply IsS61.alloc | apply IsS61.drewN | apply IsS61.drew | apply IsS61.set_1 | apply IsS61.set_2) | exact HI0.out)⟩, ⟨by repeat (first | (with_reducible first | exact HK.out | apply KeepBut.set_ | apply keep_drewN | apply keep_drew | apply keep_alloc) | exact HK.out)⟩, ⟨by repeat (first | (with_reducible first | exact HB.out | apply below_alloc | apply pw_below_drewN | apply below_drew1 | refine below_set ?_ (IsS61.ge HI0.out)) | exact HB.out)⟩⟩
              · rw [if_neg c20] at H
                exact absurd H (by simp)
            · rw [if_neg c19] at H
              have c19b0 : decide ((x3_2.length : Int) < (wrap64 (256 + t169))) = false := decide_eq_false c19
              clear c19
              simp only [Option.some.injEq, Prod.mk.injEq] at H
              obtain ⟨rfl, rfl, rfl⟩ := H
              obtain ⟨Ao27, co27, eo27⟩ := Kd.R_slice HO_3.out
              subst eo27
              go_wp2_with (first | ((with_reducible refine gate_callee (f := 24) rfl ?_); refine goesL_ (some 19) rfl rfl Try.func24 (by kernel_rfl) rfl #[.pointer (some ⟨g, 0, none⟩), .int .i64 2] rfl (by (try simp only [List.map_toArray, List.map_cons, List.map_nil]); first | done | rfl | (simp only [List.length_drop, List.length_take]; rfl)) ?_; (with_reducible refine (spec_l01Cur_pick.calls g s0_0 x1001_2 x1002_2 2 t169 t170 t171 w0 _ ?side1 ?side2 A18.out).mono ?_); (case side1 => repeat (first | (with_reducible first | exact HI0.out | apply IsS61.alloc | apply IsS61.drewN | apply IsS61.drew | apply IsS61.set_1 | apply IsS61.set_2) | exact HI0.out)); (case side2 => repeat (first | (with_reducible first | exact HB.out | apply below_alloc | apply pw_below_drewN | apply below_drew1 | refine below_set ?_ (IsS61.ge HI0.out)) | exact HB.out)); rintro e w28 ⟨rfl, hi, hb, hk⟩; refine ⟨_, rfl, ?_⟩; have n0_ := Aside0.mk (Kd.R_mono (Kd.R_keep (IsS61.apart (show IsS61 w0 _ g s0_0 x1001_2 x1002_2 from by repeat (first | (with_reducible first | exact HI0.out | apply IsS61.alloc | apply IsS61.drewN | apply IsS61.drew | apply IsS61.set_1 | apply IsS61.set_2) | exact HI0.out)) (by (with_reducible repeat (first | apply Kd.R_alloc | apply Kd.R_drewN | apply Kd.R_drew)); exact HO_3.out) (by decide)) hk (fun _ h => h.2)) (fun _ h => h.1)); have n1_ := Aside0.mk (KeepBut.trans (by repeat (first | (with_reducible first | exact HK.out | apply KeepBut.set_ | apply keep_drewN | apply keep_drew | apply keep_alloc) | exact HK.out)) hk (.inl rfl)); have n2_ := Aside0.mk (hb); have n3_ := Aside0.mk (hi); clear HO_3; clear HK; clear HB; clear HI0; have HO_3 := n0_; have HK := n1_; have HB := n2_; have HI0 := n3_; clear n0_ n1_ n2_ n3_; (try clear hb); (try clear hb2); (try clear hk); (try clear hi)))
              go_ret
              exact ⟨_, by first | rfl | (simp [errW_none, errW_some] <;> rfl) | (simp [*, errW_none, errW_some] <;> rfl), by (with_reducible repeat (first | apply Kd.R_alloc | apply Kd.R_drewN | apply Kd.R_drew)); exact HO_3.out, by repeat (first | (with_reducible first | exact HI0.out | apply IsS61.alloc | apply IsS61.drewN | apply IsS61.drew | apply IsS61.set_1 | apply IsS61.set_2) | exact HI0.out), by repeat (first | (with_reducible first | exact HB.out | apply below_alloc | apply pw_below_drewN | apply below_drew1 | refine below_set ?_ (IsS61.ge HI0.out)) | exact HB.out), by repeat (first | (with_reducible first | exact HK.out | apply KeepBut.set_ | apply keep_drewN | apply keep_drew | apply keep_alloc) | exact HK.out)⟩
      · replace c16 := Bool.eq_false_iff.mpr c16
        subst c16
        have H1 : (some (x3_5, t167, t168)) = some (r1, r2, r3) := by rw [if_neg (show ¬ (false = true) by decide)] at H; exact H
        clear H
        have H := H1
        clear H1
        simp only [Option.some.injEq, Prod.mk.injEq] at H
        obtain ⟨rfl, rfl, rfl⟩ := H
        go_wp2_with (first | ((with_reducible refine gate_callee (f := 25) rfl ?_); refine goesL_ (some 15) rfl rfl Try.func25 (by kernel_rfl) rfl #[.pointer (some ⟨g, 0, none⟩), .int .i64 30] rfl (by (try simp only [List.map_toArray, List.map_cons, List.map_nil]); first | done | rfl | (simp only [List.length_drop, List.length_take]; rfl)) ?_; (with_reducible refine (spec_l01Cur_once.calls g s0_0 x1001_5 x1002_5 30 false t167 t168 w0 _ ?side1 ?side2 A15.out).mono ?_); (case side1 => repeat (first | (with_reducible first | exact HI0.out | apply IsS61.alloc | apply IsS61.drewN | apply IsS61.drew | apply IsS61.set_1 | apply IsS61.set_2) | exact HI0.out)); (case side2 => repeat (first | (with_reducible first | exact HB.out | apply below_alloc | apply pw_below_drewN | apply below_drew1 | refine below_set ?_ (IsS61.ge HI0.out)) | exact HB.out)); rintro e w29 ⟨rfl, hi, hb, hk⟩; refine ⟨_, rfl, ?_⟩; have n0_ := Aside0.mk (Kd.R_mono (Kd.R_keep (IsS61.apart (show IsS61 w0 _ g s0_0 x1001_5 x1002_5 from by repeat (first | (with_reducible first | exact HI0.out | apply IsS61.alloc | apply IsS61.drewN | apply IsS61.drew | apply IsS61.set_1 | apply IsS61.set_2) | exact HI0.out)) (by (with_reducible repeat (first | apply Kd.R_alloc | apply Kd.R_drewN | apply Kd.R_drew)); exact HO_3.out) (by decide)) hk (fun _ h => h.2)) (fun _ h => h.1)); have n1_ := Aside0.mk (KeepBut.trans (by repeat (first | (with_reducible first | exact HK.out | apply KeepBut.set_ | apply keep_drewN | apply keep_drew | apply keep_alloc) | exact HK.out)) hk (.inl rfl)); have n2_ := Aside0.mk (hb); have n3_ := Aside0.mk (hi); clear HO_3; clear HK; clear HB; clear HI0; have HO_3 := n0_; have HK := n1_; have HB := n2_; have HI0 := n3_; clear n0_ n1_ n2_ n3_; (try clear hb); (try clear hb2); (try clear hk); (try clear hi)))
        go_ret
        exact ⟨_, by first | rfl | (simp [errW_none, errW_some] <;> rfl) | (simp [*, errW_none, errW_some] <;> rfl), by (with_reducible repeat (first | apply Kd.R_alloc | apply Kd.R_drewN | apply Kd.R_drew)); exact HO_3.out, by repeat (first | (with_reducible first | exact HI0.out | apply IsS61.alloc | apply IsS61.drewN | apply IsS61.drew | apply IsS61.set_1 | apply IsS61.set_2) | exact HI0.out), by repeat (first | (with_reducible first | exact HB.out | apply below_alloc | apply pw_below_drewN | apply below_drew1 | refine below_set ?_ (IsS61.ge HI0.out)) | exact HB.out), by repeat (first | (with_reducible first | exact HK.out | apply KeepBut.set_ | apply keep_drewN | apply keep_drew | apply keep_alloc) | exact HK.out)⟩
theorem palGo_len (k : Int) : ∀ (f : Nat) (bs : List (List (List Int))), (bs.length : Int) ≤ k → ((palGo k f bs).length : Int) ≤ k := by
  intro f
  induction f with
  | zero => intro bs h; exact h
  | succ f ih =>
    intro bs h
    simp only [palGo]
    split
    · rename_i hlt
      split
      · exact h
      · rename_i bs' hb
        refine ih bs' ?_
        unfold partM at hb
        split at hb
        · cases hb
        · simp only [Option.some.injEq] at hb
          rw [← hb, List.length_append, List.length_set, List.length_singleton]
          omega
    · exact h
theorem palM_len (list : List (List Int)) (k : Int) : (palM list k).length ≤ 256 := by
  unfold palM
  split
  · rename_i h
    simp only [palOk, Bool.and_eq_true, decide_eq_true_eq] at h
    rw [List.length_map]
    have := palGo_len k k.toNat [list] (by simp; omega)
    omega
  · simp
theorem spec_l21DrawColours.l0_ev (c : List Int) (hc : ∀ x ∈ c, 0 ≤ x ∧ x ≤ 255) (hl : c.length ≤ 1048576) : ∀ (n : Nat) (out : List (List Int)) (a s : Int), 257 ≤ out.length + n → out.length ≤ 4097 → 0 ≤ a → a + 2 * n ≤ 1000000000 → 0 ≤ s → s ≤ 65536 →
    ∃ r, Ev (fun k => spec_l21DrawColours.l0 k out c a s) r ∧ r.1.length ≤ 4097 ∧ 0 ≤ r.2.1 ∧ r.2.1 ≤ a + 2 * n + 2 ∧ 0 ≤ r.2.2 ∧ r.2.2 ≤ 65536 := by
  intro n
  induction n with
  | zero =>
    intro out a s h1 h2 ha ha2 hs0 hs1
    obtain ⟨x, xa, xs, ex, x1, x2, x3, x4, x5, x6⟩ := pickLt c hc hl a s 2 (by decide) ha (by omega) hs0 hs1
    refine ⟨(out, xa, xs), Ev.step (fun _ => by rw [spec_l21DrawColours.l0]) (Ev.bind (Ev.c ex) ?_), h2, by simp only; omega, by simp only; omega, x5, x6⟩
    refine Ev.ng ?_ (Ev.now _)
    rw [wrap_in (256 + x) (by omega) (by omega)]
    omega
  | succ n ih =>
    intro out a s h1 h2 ha ha2 hs0 hs1
    obtain ⟨x, xa, xs, ex, x1, x2, x3, x4, x5, x6⟩ := pickLt c hc hl a s 2 (by decide) ha (by omega) hs0 hs1
    by_cases hlt : (out.length : Int) < 256 + x
    · obtain ⟨r, hr, r1, r2, r3, r4, r5⟩ := ih (out ++ [[1, 2, 3]]) xa xs (by simp; omega) (by simp; omega) (by omega) (by omega) x5 x6
      refine ⟨r, Ev.step (fun _ => by rw [spec_l21DrawColours.l0]) (Ev.bind (Ev.c ex) ?_), r1, r2, by omega, r4, r5⟩
      refine Ev.ip ?_ (Ev.ip (by omega) hr)
      rw [wrap_in (256 + x) (by omega) (by omega)]
      exact hlt
    · refine ⟨(out, xa, xs), Ev.step (fun _ => by rw [spec_l21DrawColours.l0]) (Ev.bind (Ev.c ex) ?_), h2, by simp only; omega, by simp only; omega, x5, x6⟩
      refine Ev.ng ?_ (Ev.now _)
      rw [wrap_in (256 + x) (by omega) (by omega)]
      exact hlt
theorem spec_l21DrawColours.j0_ev (c : List Int) (hc : ∀ x ∈ c, 0 ≤ x ∧ x ≤ 255) (hl : c.length ≤ 1048576) (out : List (List Int)) (h2 : out.length ≤ 4097) (a s : Int) (ha : 0 ≤ a) (ha2 : a ≤ 900000000) (hs0 : 0 ≤ s) (hs1 : s ≤ 65536) :
    ∃ r, Ev (fun k => spec_l21DrawColours.j0 k out c a s) r ∧ r.1.length ≤ 4097 ∧ 0 ≤ r.2.1 ∧ r.2.1 ≤ a + 1000 ∧ 0 ≤ r.2.2 ∧ r.2.2 ≤ 65536 := by
  obtain ⟨o, oa, os, eo, o3, o4, o5, o6⟩ := spec_l01Cur_once.val c hc hl a s 30 ha (by omega) hs0 hs1
  cases o with
  | true =>
    obtain ⟨r, hr, r1, r2, r3, r4, r5⟩ := spec_l21DrawColours.l0_ev c hc hl 257 out oa os (by omega) h2 (by omega) (by omega) o5 o6
    exact ⟨r, Ev.step (fun _ => by rw [spec_l21DrawColours.j0]) (Ev.bind (Ev.c eo) (Ev.ip rfl hr)), r1, r2, by omega, r4, r5⟩
  | false => exact ⟨(out, oa, os), Ev.step (fun _ => by rw [spec_l21DrawColours.j0]) (Ev.bind (Ev.c eo) (Ev.ng (show ¬ (false = true) by decide) (Ev.now _))), h2, by simp only; omega, by simp only; omega, o5, o6⟩
theorem spec_l21DrawColours.ev (c : List Int) (hc : ∀ x ∈ c, 0 ≤ x ∧ x ≤ 255) (hl : c.length ≤ 1048576) (a s : Int) (ha : 0 ≤ a) (ha2 : a ≤ 100000000) (hs0 : 0 ≤ s) (hs1 : s ≤ 65536) :
    ∃ r, Ev (fun k => spec_l21DrawColours.f k c a s) r ∧ r.1.length ≤ 4097 ∧ 0 ≤ r.2.1 ∧ r.2.1 ≤ a + 30000 ∧ 0 ≤ r.2.2 ∧ r.2.2 ≤ 65536 := by
  obtain ⟨p, pa, ps, ep, p1, p2, p3, p4, p5, p6⟩ := spec_l21DrawPixels.val c hc hl a s 40 ha (by omega) hs0 hs1
  obtain ⟨x, xa, xs, ex, x1, x2, x3, x4, x5, x6⟩ := pickLt c hc hl pa ps 12 (by decide) (by omega) (by omega) p3 p4
  obtain ⟨o, oa, os, eo, o3, o4, o5, o6⟩ := spec_l01Cur_once.val c hc hl xa xs 3 (by omega) (by omega) x5 x6
  have epal : spec_Palette.f p (wrap64 (1 + x)) = some (palM p (wrap64 (1 + x))) := by
    unfold spec_Palette.f
    exact if_pos (by omega)
  have hp := palM_len p (wrap64 (1 + x))
  cases o with
  | true =>
    obtain ⟨q, qa, qs, eq, q1, q2, q3, q4, q5, q6⟩ := spec_l21DrawPixels.val c hc hl oa os 20 (by omega) (by omega) o5 o6
    obtain ⟨r, hr, r1, r2, r3, r4, r5⟩ := spec_l21DrawColours.j0_ev c hc hl q q5 qa qs (by omega) (by omega) q3 q4
    exact ⟨r, Ev.bind (Ev.c ep) (Ev.bind (Ev.c ex) (Ev.bind (Ev.c epal) (Ev.bind (Ev.c eo) (Ev.ip rfl (Ev.bind (Ev.c eq) hr))))), r1, r2, by omega, r4, r5⟩
  | false =>
    obtain ⟨r, hr, r1, r2, r3, r4, r5⟩ := spec_l21DrawColours.j0_ev c hc hl (palM p (wrap64 (1 + x))) (by omega) oa os (by omega) (by omega) o5 o6
    exact ⟨r, Ev.bind (Ev.c ep) (Ev.bind (Ev.c ex) (Ev.bind (Ev.c epal) (Ev.bind (Ev.c eo) (Ev.ng (by simp) hr)))), r1, r2, by omega, r4, r5⟩
end Go.Proofs.Ytopebplddfhaeaa.G

namespace Go.Proofs.Ytopebplddfhaeaa.G
open Go.RowKit Go.Proofs.YtopebplddfhaeaaW.PrintWords Go.Proofs.YtopebplddfhaeaaW.PrintLast Go.Proofs.YtopebplddfhaeaaW.PrintMore
attribute [local go_sem] max2_int min2_int max_two min_two max_three min_three max_four min_four   -- for this text's walks alone
/-! ### laws_big: function 6 -/
def laws_big.f (l0 : List Int) : Option (Bool) := some (decide ((l0.length : Int) > 1048576))
set_option maxHeartbeats 8000000 in
set_option maxRecDepth 100000 in
theorem laws_big.calls (A0 : Option Addr) (c0 : Nat) (l0 : List Int) (r : Bool) (w : World) (hr0 : Kd.C (Kd.int .u8) w A0 l0.length l0) (hc0 : l0.length ≤ c0) (h : laws_big.f l0 = some r) :
    Calls Try.prog 6 #[.slice A0 l0.length c0] w fun e w' => e = .returned (.bool r) ∧ Drawn0 w w' := by
  have HR0 := Aside0.mk hr0
  have HC0 := Aside0.mk hc0
  clear hr0 hc0
  have H : (some (decide ((l0.length : Int) > 1048576))) = some r := h
  clear h
  obtain rfl := Option.some.inj H
  go_enter Try.func6, Try.ntmps6
  go_wp2
  go_ret
  exact ⟨by first | rfl | (simp; done) | (simp [*]; done), by repeat (first | exact Drawn0.refl _ | apply Drawn0.step)⟩
end Go.Proofs.Ytopebplddfhaeaa.G
