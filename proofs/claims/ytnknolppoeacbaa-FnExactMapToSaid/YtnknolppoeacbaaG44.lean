-- Written by gp.py (a program of this session's, over the kit's print). Not trusted: Lean checks it.
import Derived.Test.YtnknolppoeacbaaG0h
import Derived.Test.YtnknolppoeacbaaGLib
namespace Go.Proofs.Ytnknolppoeacbaa.G
open Go.RowKit Go.Proofs.YtnknolppoeacbaaW.PrintWords Go.Proofs.YtnknolppoeacbaaW.PrintLast Go.Proofs.YtnknolppoeacbaaW.PrintMore
attribute [local go_sem] max2_int min2_int max_two min_two max_three min_three max_four min_four   -- for this text's walks alone
set_option linter.unusedVariables false
set_option linter.unusedSimpArgs false

/-! ### spec_l21Near: function 44 -/
mutual
def spec_l21Near.l0 : Nat → List (List Int) → List Int → Int → Int → Int → Option (Int)
  | 0, _, _, _, _, _ => none
  | k + 1, x0, x1, x5, x6, x7 => if x7 < (x0.length : Int) then (spec_l21Near.l1 k x0 x1 x5 x6 x7 0 0) else (some x5)
def spec_l21Near.l1 : Nat → List (List Int) → List Int → Int → Int → Int → Int → Int → Option (Int)
  | 0, _, _, _, _, _, _, _ => none
  | k + 1, x0, x1, x5, x6, x7, x8, x9 => if x9 < 3 then (if 0 ≤ x7 then (if x7 < (x0.length : Int) then (if 0 ≤ x9 then (if x9 < ((rd_L1 x0 x7).length : Int) then (if x9 < (x1.length : Int) then (spec_l21Near.l1 k x0 x1 x5 x6 x7 (wrap64 (x8 + (wrap64 ((wrap64 ((rd (rd_L1 x0 x7) x9) - (rd x1 x9))) * (wrap64 ((rd (rd_L1 x0 x7) x9) - (rd x1 x9))))))) (wrap64 (x9 + 1))) else (none)) else (none)) else (none)) else (none)) else (none)) else (if x6 < 0 then (spec_l21Near.l0 k x0 x1 x7 x8 (wrap64 (x7 + 1))) else (if x8 < x6 then (spec_l21Near.l0 k x0 x1 x7 x8 (wrap64 (x7 + 1))) else (spec_l21Near.l0 k x0 x1 x5 x6 (wrap64 (x7 + 1)))))
end
def spec_l21Near.f (k : Nat) (l0 : List (List Int)) (l1 : List Int) : Option (Int) := spec_l21Near.l0 k l0 l1 0 (-1) 0
theorem spec_l21Near.mono_l : ∀ k, (∀ y0 y1 y2 y3 y4, LeO (spec_l21Near.l0 k y0 y1 y2 y3 y4) (spec_l21Near.l0 (k + 1) y0 y1 y2 y3 y4)) ∧ (∀ y0 y1 y2 y3 y4 y5 y6, LeO (spec_l21Near.l1 k y0 y1 y2 y3 y4 y5 y6) (spec_l21Near.l1 (k + 1) y0 y1 y2 y3 y4 y5 y6))
  | 0 => ⟨fun _ _ _ _ _ r h => by simp [spec_l21Near.l0] at h, fun _ _ _ _ _ _ _ r h => by simp [spec_l21Near.l1] at h⟩
  | k + 1 => by
    obtain ⟨ih0, ih1⟩ := spec_l21Near.mono_l k
    refine ⟨?_, ?_⟩
    · intro y0 y1 y2 y3 y4
      unfold spec_l21Near.l0
      repeat' first
      | (with_reducible exact ih0 _ _ _ _ _)
      | (with_reducible exact ih1 _ _ _ _ _ _ _)
      | (with_reducible exact LeO.refl _)
      | (with_reducible exact LeO.none _)
      | (with_reducible refine LeO.ite ?_ ?_)
      | (with_reducible refine LeO.bind ?_ (fun _ => ?_))
      | exact ih0 _ _ _ _ _
      | exact ih1 _ _ _ _ _ _ _
      | exact LeO.none _
      | refine LeO.ite ?_ ?_
      | refine LeO.bind ?_ (fun _ => ?_)
    · intro y0 y1 y2 y3 y4 y5 y6
      unfold spec_l21Near.l1
      repeat' first
      | (with_reducible exact ih0 _ _ _ _ _)
      | (with_reducible exact ih1 _ _ _ _ _ _ _)
      | (with_reducible exact LeO.refl _)
      | (with_reducible exact LeO.none _)
      | (with_reducible refine LeO.ite ?_ ?_)
      | (with_reducible refine LeO.bind ?_ (fun _ => ?_))
      | exact ih0 _ _ _ _ _
      | exact ih1 _ _ _ _ _ _ _
      | exact LeO.none _
      | refine LeO.ite ?_ ?_
      | refine LeO.bind ?_ (fun _ => ?_)
theorem spec_l21Near.mono : ∀ a0 a1 k, LeO (spec_l21Near.f k a0 a1) (spec_l21Near.f (k + 1) a0 a1) := by
  intro a0 a1 k
  obtain ⟨ih0, ih1⟩ := spec_l21Near.mono_l k
  unfold spec_l21Near.f
  repeat' first
      | (with_reducible exact ih0 _ _ _ _ _)
      | (with_reducible exact ih1 _ _ _ _ _ _ _)
      | (with_reducible exact LeO.refl _)
      | (with_reducible exact LeO.none _)
      | (with_reducible refine LeO.ite ?_ ?_)
      | (with_reducible refine LeO.bind ?_ (fun _ => ?_))
      | exact ih0 _ _ _ _ _
      | exact ih1 _ _ _ _ _ _ _
      | exact LeO.none _
      | refine LeO.ite ?_ ?_
      | refine LeO.bind ?_ (fun _ => ?_)
set_option maxHeartbeats 8000000 in
set_option maxRecDepth 100000 in
theorem spec_l21Near.calls (k : Nat) (A0 : Option Addr) (c0 : Nat) (l0 : List (List Int)) (A1 : Option Addr) (c1 : Nat) (l1 : List Int) (r : Int) (w : World) (hr0 : Kd.C (Kd.slice 3 (Kd.int .i64)) w A0 l0.length l0) (hc0 : l0.length ≤ c0) (hr1 : Kd.C (Kd.int .i64) w A1 l1.length l1) (hc1 : l1.length ≤ c1) (h : spec_l21Near.f k l0 l1 = some r) :
    Calls Try.prog 44 #[.slice A0 l0.length c0, .slice A1 l1.length c1] w fun e w' => e = .returned (.int .i64 r) ∧ Drawn0 w w' := by
  have HR0 := Aside0.mk hr0
  have HC0 := Aside0.mk hc0
  clear hr0 hc0
  have HR1 := Aside0.mk hr1
  have HC1 := Aside0.mk hc1
  clear hr1 hc1
  have H : (spec_l21Near.l0 k l0 l1 0 (-1) 0) = some r := h
  clear h
  have H' := Aside0.mk H
  clear H
  go_enter Try.func44, Try.ntmps44
  go_wp2
  repeat (go_quiet (fail); try go_wp2)
  go_loopg [5, 6, 7] k (fun kq v5 v6 v7 w' => ∃ (x5_1 : Int) (x6_1 : Int) (x7_1 : Int), v5 = .int .i64 x5_1 ∧ v6 = .int .i64 x6_1 ∧ v7 = .int .i64 x7_1 ∧ Aside0 (spec_l21Near.l0 kq l0 l1 x5_1 x6_1 x7_1 = some r) ∧ Aside0 (kq ≤ k) ∧ Drawn0 w w')
  case atStart => exact ⟨(0), ((-1)), (0), (by first | rfl | (simp; done) | (simp [*]; done)), (by first | rfl | (simp; done) | (simp [*]; done)), (by first | rfl | (simp; done) | (simp [*]; done)), H', ⟨Nat.le_refl _⟩, by repeat (first | exact Drawn0.refl _ | apply Drawn0.step)⟩
  case round =>
    clear H'
    try clear c1
    try clear p2
    obtain ⟨x5_1, x6_1, x7_1, rfl, rfl, rfl, HA, HK1, ⟨m1, rfl⟩⟩ := hrel
    cases gk with
    | zero => exact absurd HA.out (by simp [spec_l21Near.l0])
    | succ k1 =>
      have H := HA.out
      clear HA
      simp only [spec_l21Near.l0] at H
      by_cases c3 : x7_1 < (l0.length : Int)
      · rw [if_pos c3] at H
        have c3b0 : decide (x7_1 < (l0.length : Int)) = true := decide_eq_true c3
        clear c3
        have H' := Aside0.mk H
        clear H
        go_wp2
        repeat (go_quiet (fail); try go_wp2)
        go_loopg [8, 9] k1 (fun kq v8 v9 w' => ∃ (x8_2 : Int) (x9_2 : Int), v8 = .int .i64 x8_2 ∧ v9 = .int .i64 x9_2 ∧ Aside0 (spec_l21Near.l1 kq l0 l1 x5_1 x6_1 x7_1 x8_2 x9_2 = some r) ∧ Aside0 (kq ≤ k1) ∧ Drawn0 w w')
        case atStart => exact ⟨(0), (0), (by first | rfl | (simp; done) | (simp [*]; done)), (by first | rfl | (simp; done) | (simp [*]; done)), H', ⟨Nat.le_refl _⟩, by repeat (first | exact Drawn0.refl _ | apply Drawn0.step)⟩
        case round =>
          clear H'
          try clear c1
          try clear p2
          try clear c3
          try clear c3b0
          try clear p2
          obtain ⟨x8_2, x9_2, rfl, rfl, HA, HK2, ⟨m2, rfl⟩⟩ := hrel
          cases gk with
          | zero => exact absurd HA.out (by simp [spec_l21Near.l1])
          | succ k2 =>
            have H := HA.out
            clear HA
            simp only [spec_l21Near.l1] at H
            by_cases c4 : x9_2 < 3
            · rw [if_pos c4] at H
              have c4b0 : decide (x9_2 < 3) = true := decide_eq_true c4
              clear c4
              by_cases c5 : 0 ≤ x7_1
              · rw [if_pos c5] at H
                have c5b0 : decide (0 ≤ x7_1) = true := decide_eq_true c5
                clear c5
                by_cases c6 : x7_1 < (l0.length : Int)
                · rw [if_pos c6] at H
                  have c6b0 : decide (x7_1 < (l0.length : Int)) = true := decide_eq_true c6
                  clear c6
                  by_cases c7 : 0 ≤ x9_2
                  · rw [if_pos c7] at H
                    have c7b0 : decide (0 ≤ x9_2) = true := decide_eq_true c7
                    clear c7
                    by_cases c8 : x9_2 < ((rd_L1 l0 x7_1).length : Int)
                    · rw [if_pos c8] at H
                      have c8b0 : decide (x9_2 < ((rd_L1 l0 x7_1).length : Int)) = true := decide_eq_true c8
                      clear c8
                      by_cases c9 : x9_2 < (l1.length : Int)
                      · rw [if_pos c9] at H
                        have c9b0 : decide (x9_2 < (l1.length : Int)) = true := decide_eq_true c9
                        clear c9
                        have H' := Aside0.mk H
                        clear H
                        have p181 : 0 ≤ (x7_1 : Int) := of_decide_eq_true (by first | (with_reducible assumption) | assumption)
                        have q181 : x7_1 < (l0.length : Int) := of_decide_eq_true (by first | (with_reducible assumption) | assumption)
                        obtain ⟨ad181, A181_0, c181_0, e181, hx181_0, hl181_0, hi181_0⟩ := at_L1 HR0.out x7_1 p181 q181
                        cases e181
                        have HR181_0 := Aside0.mk hi181_0
                        have HC181_0 := Aside0.mk hl181_0
                        clear hi181_0 hl181_0
                        replace p181 := eq_true p181
                        replace q181 := eq_true q181
                        have p182 : 0 ≤ (x9_2 : Int) := of_decide_eq_true (by first | (with_reducible assumption) | assumption)
                        have q182 : x9_2 < ((rd_L1 l0 x7_1).length : Int) := of_decide_eq_true (by first | (with_reducible assumption) | assumption)
                        obtain ⟨ad182, e182, hx182_0⟩ := Kd.at_int HR181_0.out x9_2 p182 q182
                        cases e182
                        replace p182 := eq_true p182
                        replace q182 := eq_true q182
                        have p183 : 0 ≤ (x9_2 : Int) := of_decide_eq_true (by first | (with_reducible assumption) | assumption)
                        have q183 : x9_2 < (l1.length : Int) := of_decide_eq_true (by first | (with_reducible assumption) | assumption)
                        obtain ⟨ad183, e183, hx183_0⟩ := Kd.at_int HR1.out x9_2 p183 q183
                        cases e183
                        replace p183 := eq_true p183
                        replace q183 := eq_true q183
                        have p184 : 0 ≤ (x7_1 : Int) := of_decide_eq_true (by first | (with_reducible assumption) | assumption)
                        have q184 : x7_1 < (l0.length : Int) := of_decide_eq_true (by first | (with_reducible assumption) | assumption)
                        obtain ⟨ad184, A184_0, c184_0, e184, hx184_0, hl184_0, hi184_0⟩ := at_L1 HR0.out x7_1 p184 q184
                        obtain rfl : ad181 = ad184 := (by injection e184)
                        have HR184_0 := Aside0.mk hi184_0
                        have HC184_0 := Aside0.mk hl184_0
                        clear hi184_0 hl184_0
                        replace p184 := eq_true p184
                        replace q184 := eq_true q184
                        have ea_ := Option.some.inj (hx181_0.symm.trans hx184_0)
                        injection ea_ with ea_ en_ ec_
                        subst ea_
                        subst ec_
                        clear en_
                        have p185 : 0 ≤ (x9_2 : Int) := of_decide_eq_true (by first | (with_reducible assumption) | assumption)
                        have q185 : x9_2 < ((rd_L1 l0 x7_1).length : Int) := of_decide_eq_true (by first | (with_reducible assumption) | assumption)
                        obtain ⟨ad185, e185, hx185_0⟩ := Kd.at_int HR184_0.out x9_2 p185 q185
                        cases e185
                        replace p185 := eq_true p185
                        replace q185 := eq_true q185
                        have p186 : 0 ≤ (x9_2 : Int) := of_decide_eq_true (by first | (with_reducible assumption) | assumption)
                        have q186 : x9_2 < (l1.length : Int) := of_decide_eq_true (by first | (with_reducible assumption) | assumption)
                        obtain ⟨ad186, e186, hx186_0⟩ := Kd.at_int HR1.out x9_2 p186 q186
                        obtain rfl : ad183 = ad186 := (by injection e186)
                        replace p186 := eq_true p186
                        replace q186 := eq_true q186
                        go_wp2
                        repeat (go_quiet (fail); try go_wp2)
                        go_roundg k2
                        case measure => have := HK1.out; have := HK2.out; omega
                        case rel => exact ⟨(wrap64 (x8_2 + (wrap64 ((wrap64 ((rd (rd_L1 l0 x7_1) x9_2) - (rd l1 x9_2))) * (wrap64 ((rd (rd_L1 l0 x7_1) x9_2) - (rd l1 x9_2))))))), (wrap64 (x9_2 + 1)), (by first | rfl | (simp; done) | (simp [*]; done)), (by first | rfl | (simp; done) | (simp [*]; done)), H', ⟨by have := HK1.out; have := HK2.out; omega⟩, by repeat (first | exact Drawn0.refl _ | apply Drawn0.step)⟩
                      · rw [if_neg c9] at H
                        exact absurd H (by simp)
                    · rw [if_neg c8] at H
                      exact absurd H (by simp)
                  · rw [if_neg c7] at H
                    exact absurd H (by simp)
                · rw [if_neg c6] at H
                  exact absurd H (by simp)
              · rw [if_neg c5] at H
                exact absurd H (by simp)
            · rw [if_neg c4] at H
              have c4b0 : decide (x9_2 < 3) = false := decide_eq_false c4
              clear c4
              by_cases c10 : x6_1 < 0
              · rw [if_pos c10] at H
                have c10b0 : decide (x6_1 < 0) = true := decide_eq_true c10
                clear c10
                have H' := Aside0.mk H
                clear H
                go_wp2
                repeat (go_quiet (fail); try go_wp2)
                go_roundg k2
                case measure => have := HK1.out; have := HK2.out; omega
                case rel => exact ⟨(x7_1), (x8_2), (wrap64 (x7_1 + 1)), (by first | rfl | (simp; done) | (simp [*]; done)), (by first | rfl | (simp; done) | (simp [*]; done)), (by first | rfl | (simp; done) | (simp [*]; done)), H', ⟨by have := HK1.out; have := HK2.out; omega⟩, by repeat (first | exact Drawn0.refl _ | apply Drawn0.step)⟩
              · rw [if_neg c10] at H
                have c10b0 : decide (x6_1 < 0) = false := decide_eq_false c10
                clear c10
                by_cases c11 : x8_2 < x6_1
                · rw [if_pos c11] at H
                  have c11b0 : decide (x8_2 < x6_1) = true := decide_eq_true c11
                  clear c11
                  have H' := Aside0.mk H
                  clear H
                  go_wp2
                  repeat (go_quiet (fail); try go_wp2)
                  go_roundg k2
                  case measure => have := HK1.out; have := HK2.out; omega
                  case rel => exact ⟨(x7_1), (x8_2), (wrap64 (x7_1 + 1)), (by first | rfl | (simp; done) | (simp [*]; done)), (by first | rfl | (simp; done) | (simp [*]; done)), (by first | rfl | (simp; done) | (simp [*]; done)), H', ⟨by have := HK1.out; have := HK2.out; omega⟩, by repeat (first | exact Drawn0.refl _ | apply Drawn0.step)⟩
                · rw [if_neg c11] at H
                  have c11b0 : decide (x8_2 < x6_1) = false := decide_eq_false c11
                  clear c11
                  have H' := Aside0.mk H
                  clear H
                  go_wp2
                  repeat (go_quiet (fail); try go_wp2)
                  go_roundg k2
                  case measure => have := HK1.out; have := HK2.out; omega
                  case rel => exact ⟨(x5_1), (x6_1), (wrap64 (x7_1 + 1)), (by first | rfl | (simp; done) | (simp [*]; done)), (by first | rfl | (simp; done) | (simp [*]; done)), (by first | rfl | (simp; done) | (simp [*]; done)), H', ⟨by have := HK1.out; have := HK2.out; omega⟩, by repeat (first | exact Drawn0.refl _ | apply Drawn0.step)⟩
      · rw [if_neg c3] at H
        have c3b0 : decide (x7_1 < (l0.length : Int)) = false := decide_eq_false c3
        clear c3
        obtain rfl := Option.some.inj H
        go_wp2
        repeat (go_quiet (fail); try go_wp2)
        go_ret
        exact ⟨by first | rfl | (simp; done) | (simp [*]; done), by repeat (first | exact Drawn0.refl _ | apply Drawn0.step)⟩

theorem spec_l21Near.inner (px c : List Int) (l : List (List Int)) (hp : isPx px = true) (hc : isPx c = true) (i : Nat) (hi : i < l.length) (hci : l[i] = c) (hi2 : l.length ≤ 4096) (best least : Int) (r : Int)
    (h : Ev (fun k => spec_l21Near.l0 k l px (if least < 0 ∨ dist c px < least then (i : Int) else best) (if least < 0 ∨ dist c px < least then dist c px else least) ((i + 1 : Nat) : Int)) r) :
    Ev (fun k => spec_l21Near.l1 k l px best least (i : Int) 0 0) r := by
  obtain ⟨a, b, c', rfl, ha, ha', hb, hb', hc1, hc1'⟩ := isPx_three hc
  obtain ⟨p, q, s, rfl, hp1, hp1', hq, hq', hs, hs'⟩ := isPx_three hp
  have el : rd_L1 l (i : Int) = [a, b, c'] := by rw [← hci]; simp [rd_L1, hi]
  have e0 : rd [a, b, c'] 0 = a := rfl
  have e1 : rd [a, b, c'] 1 = b := rfl
  have e2 : rd [a, b, c'] 2 = c' := rfl
  have f0 : rd [p, q, s] 0 = p := rfl
  have f1 : rd [p, q, s] 1 = q := rfl
  have f2 : rd [p, q, s] 2 = s := rfl
  have b0 := sq_bound (a - p) (by omega) (by omega)
  have b1 := sq_bound (b - q) (by omega) (by omega)
  have ed : dist [a, b, c'] [p, q, s] = (a - p) * (a - p) + (b - q) * (b - q) + (c' - s) * (c' - s) := rfl
  rw [ed] at h
  refine Ev.step (fun _ => by rw [spec_l21Near.l1]) (Ev.ip (by omega) (Ev.ip (by omega) (Ev.ip (by omega) (Ev.ip (by omega) (Ev.ip (by rw [el]; simp) (Ev.ip (by simp) ?_))))))
  rw [el, e0, f0, sq_step 0 a p (by omega) (by omega) ha ha' hp1 hp1', w64_1, Int.zero_add]
  refine Ev.step (fun _ => by rw [spec_l21Near.l1]) (Ev.ip (by omega) (Ev.ip (by omega) (Ev.ip (by omega) (Ev.ip (by omega) (Ev.ip (by rw [el]; simp) (Ev.ip (by simp) ?_))))))
  rw [el, e1, f1, sq_step _ b q (by omega) (by omega) hb hb' hq hq', w64_2]
  refine Ev.step (fun _ => by rw [spec_l21Near.l1]) (Ev.ip (by omega) (Ev.ip (by omega) (Ev.ip (by omega) (Ev.ip (by omega) (Ev.ip (by rw [el]; simp) (Ev.ip (by simp) ?_))))))
  rw [el, e2, f2, sq_step _ c' s (by omega) (by omega) hc1 hc1' hs hs', w64_3]
  refine Ev.step (fun _ => by rw [spec_l21Near.l1]) (Ev.ng (by omega) ?_)
  rw [wrap_succ i (by omega)]
  by_cases h1 : least < 0
  · rw [if_pos (.inl h1), if_pos (.inl h1)] at h
    exact Ev.ip h1 h
  · refine Ev.ng h1 ?_
    by_cases h2 : (a - p) * (a - p) + (b - q) * (b - q) + (c' - s) * (c' - s) < least
    · rw [if_pos (.inr h2), if_pos (.inr h2)] at h
      exact Ev.ip h2 h
    · rw [if_neg (by omega), if_neg (by omega)] at h
      exact Ev.ng h2 h
theorem spec_l21Near.ev (l : List (List Int)) (px : List Int) (hp : isPx px = true) (hl : ∀ c ∈ l, isPx c = true) (hm : l.length ≤ 4096) : Ev (fun k => spec_l21Near.f k l px) (nearGo px l 0 0 (-1)) := by
  unfold spec_l21Near.f
  have key : ∀ d i : Nat, ∀ best least : Int, l.length - i = d → i ≤ l.length → Ev (fun k => spec_l21Near.l0 k l px best least (i : Int)) (nearGo px (l.drop i) i best least) := by
    intro d
    induction d with
    | zero =>
      intro i best least hd hi
      refine Ev.step (fun _ => by rw [spec_l21Near.l0]) (Ev.ng (by omega) (Ev.eq (Ev.now _) ?_))
      rw [List.drop_of_length_le (by omega)]; rfl
    | succ d ih =>
      intro i best least hd hi
      have hlt : i < l.length := by omega
      refine Ev.step (fun _ => by rw [spec_l21Near.l0]) (Ev.ip (by omega) ?_)
      rw [List.drop_eq_getElem_cons hlt]
      refine spec_l21Near.inner px l[i] l hp (hl _ (List.getElem_mem _)) i hlt rfl hm best least _ (Ev.eq (ih (i + 1) _ _ (by omega) (by omega)) ?_)
      simp only [nearGo]
      by_cases h : least < 0 ∨ dist l[i] px < least
      · rw [if_pos h, if_pos h, if_pos h]; rfl
      · rw [if_neg h, if_neg h, if_neg h]; rfl
  exact key _ 0 0 (-1) rfl (by omega)

end Go.Proofs.Ytnknolppoeacbaa.G
