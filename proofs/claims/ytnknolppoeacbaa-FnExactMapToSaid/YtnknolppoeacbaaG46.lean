-- Written by gp.py (a program of this session's, over the kit's print). Not trusted: Lean checks it.
import Derived.Test.YtnknolppoeacbaaG0h
import Derived.Test.YtnknolppoeacbaaGLib
namespace Go.Proofs.Ytnknolppoeacbaa.G
open Go.RowKit Go.Proofs.YtnknolppoeacbaaW.PrintWords Go.Proofs.YtnknolppoeacbaaW.PrintLast Go.Proofs.YtnknolppoeacbaaW.PrintMore
attribute [local go_sem] max2_int min2_int max_two min_two max_three min_three max_four min_four   -- for this text's walks alone
set_option linter.unusedVariables false
set_option linter.unusedSimpArgs false

/-! ### impl_nearest: function 46 -/
mutual
def impl_nearest.l0 : Nat → List Int → Int → Int → List (List Int) → Int → Int → Option (Int)
  | 0, _, _, _, _, _, _ => none
  | k + 1, x1, x5, x6, x12, x13, x14 => if x14 < x13 then (if 0 ≤ x14 then (if x14 < (x12.length : Int) then (impl_nearest.l1 k x1 x5 x6 x14 0 x12 x13 x14 (rd_L1 x12 x14) ((rd_L1 x12 x14).length : Int) 0) else (none)) else (none)) else (some x5)
def impl_nearest.l1 : Nat → List Int → Int → Int → Int → Int → List (List Int) → Int → Int → List Int → Int → Int → Option (Int)
  | 0, _, _, _, _, _, _, _, _, _, _, _ => none
  | k + 1, x1, x5, x6, x7, x9, x12, x13, x14, x19, x20, x21 => if x21 < x20 then (if 0 ≤ x21 then (if x21 < (x19.length : Int) then (if x21 < (x1.length : Int) then (impl_nearest.l1 k x1 x5 x6 x7 (wrap64 (x9 + (wrap64 ((wrap64 ((rd x19 x21) - (rd x1 x21))) * (wrap64 ((rd x19 x21) - (rd x1 x21))))))) x12 x13 x14 x19 x20 (wrap64 (x21 + 1))) else (none)) else (none)) else (none)) else (if x6 < 0 then (impl_nearest.l0 k x1 x7 x9 x12 x13 (wrap64 (x14 + 1))) else (if x9 < x6 then (impl_nearest.l0 k x1 x7 x9 x12 x13 (wrap64 (x14 + 1))) else (impl_nearest.l0 k x1 x5 x6 x12 x13 (wrap64 (x14 + 1)))))
end
def impl_nearest.f (k : Nat) (l0 : List (List Int)) (l1 : List Int) : Option (Int) := impl_nearest.l0 k l1 0 (-1) l0 (l0.length : Int) 0
theorem impl_nearest.mono_l : ∀ k, (∀ y0 y1 y2 y3 y4 y5, LeO (impl_nearest.l0 k y0 y1 y2 y3 y4 y5) (impl_nearest.l0 (k + 1) y0 y1 y2 y3 y4 y5)) ∧ (∀ y0 y1 y2 y3 y4 y5 y6 y7 y8 y9 y10, LeO (impl_nearest.l1 k y0 y1 y2 y3 y4 y5 y6 y7 y8 y9 y10) (impl_nearest.l1 (k + 1) y0 y1 y2 y3 y4 y5 y6 y7 y8 y9 y10))
  | 0 => ⟨fun _ _ _ _ _ _ r h => by simp [impl_nearest.l0] at h, fun _ _ _ _ _ _ _ _ _ _ _ r h => by simp [impl_nearest.l1] at h⟩
  | k + 1 => by
    obtain ⟨ih0, ih1⟩ := impl_nearest.mono_l k
    refine ⟨?_, ?_⟩
    · intro y0 y1 y2 y3 y4 y5
      unfold impl_nearest.l0
      repeat' first
      | (with_reducible exact ih0 _ _ _ _ _ _)
      | (with_reducible exact ih1 _ _ _ _ _ _ _ _ _ _ _)
      | (with_reducible exact LeO.refl _)
      | (with_reducible exact LeO.none _)
      | (with_reducible refine LeO.ite ?_ ?_)
      | (with_reducible refine LeO.bind ?_ (fun _ => ?_))
      | exact ih0 _ _ _ _ _ _
      | exact ih1 _ _ _ _ _ _ _ _ _ _ _
      | exact LeO.none _
      | refine LeO.ite ?_ ?_
      | refine LeO.bind ?_ (fun _ => ?_)
    · intro y0 y1 y2 y3 y4 y5 y6 y7 y8 y9 y10
      unfold impl_nearest.l1
      repeat' first
      | (with_reducible exact ih0 _ _ _ _ _ _)
      | (with_reducible exact ih1 _ _ _ _ _ _ _ _ _ _ _)
      | (with_reducible exact LeO.refl _)
      | (with_reducible exact LeO.none _)
      | (with_reducible refine LeO.ite ?_ ?_)
      | (with_reducible refine LeO.bind ?_ (fun _ => ?_))
      | exact ih0 _ _ _ _ _ _
      | exact ih1 _ _ _ _ _ _ _ _ _ _ _
      | exact LeO.none _
      | refine LeO.ite ?_ ?_
      | refine LeO.bind ?_ (fun _ => ?_)
theorem impl_nearest.mono : ∀ a0 a1 k, LeO (impl_nearest.f k a0 a1) (impl_nearest.f (k + 1) a0 a1) := by
  intro a0 a1 k
  obtain ⟨ih0, ih1⟩ := impl_nearest.mono_l k
  unfold impl_nearest.f
  repeat' first
      | (with_reducible exact ih0 _ _ _ _ _ _)
      | (with_reducible exact ih1 _ _ _ _ _ _ _ _ _ _ _)
      | (with_reducible exact LeO.refl _)
      | (with_reducible exact LeO.none _)
      | (with_reducible refine LeO.ite ?_ ?_)
      | (with_reducible refine LeO.bind ?_ (fun _ => ?_))
      | exact ih0 _ _ _ _ _ _
      | exact ih1 _ _ _ _ _ _ _ _ _ _ _
      | exact LeO.none _
      | refine LeO.ite ?_ ?_
      | refine LeO.bind ?_ (fun _ => ?_)
set_option maxHeartbeats 8000000 in
set_option maxRecDepth 100000 in
theorem impl_nearest.calls (k : Nat) (A0 : Option Addr) (c0 : Nat) (l0 : List (List Int)) (A1 : Option Addr) (c1 : Nat) (l1 : List Int) (r : Int) (w : World) (hr0 : Kd.C (Kd.slice 3 (Kd.int .i64)) w A0 l0.length l0) (hc0 : l0.length ≤ c0) (hr1 : Kd.C (Kd.int .i64) w A1 l1.length l1) (hc1 : l1.length ≤ c1) (h : impl_nearest.f k l0 l1 = some r) :
    Calls Try.prog 46 #[.slice A0 l0.length c0, .slice A1 l1.length c1] w fun e w' => e = .returned (.int .i64 r) ∧ Drawn0 w w' := by
  have HR0 := Aside0.mk hr0
  have HC0 := Aside0.mk hc0
  clear hr0 hc0
  have HR1 := Aside0.mk hr1
  have HC1 := Aside0.mk hc1
  clear hr1 hc1
  have H : (impl_nearest.l0 k l1 0 (-1) l0 (l0.length : Int) 0) = some r := h
  clear h
  have H' := Aside0.mk H
  clear H
  go_enter Try.func46, Try.ntmps46
  go_wp2
  repeat (go_quiet (fail); try go_wp2)
  go_loopg [5, 6, 14] k (fun kq v5 v6 v14 w' => ∃ (x5_1 : Int) (x6_1 : Int) (x14_1 : Int), v5 = .int .i64 x5_1 ∧ v6 = .int .i64 x6_1 ∧ v14 = .int .i64 x14_1 ∧ Aside0 (impl_nearest.l0 kq l1 x5_1 x6_1 l0 (l0.length : Int) x14_1 = some r) ∧ Aside0 (kq ≤ k) ∧ Drawn0 w w')
  case atStart => exact ⟨(0), ((-1)), (0), (by first | rfl | (simp; done) | (simp [*]; done)), (by first | rfl | (simp; done) | (simp [*]; done)), (by first | rfl | (simp; done) | (simp [*]; done)), H', ⟨Nat.le_refl _⟩, by repeat (first | exact Drawn0.refl _ | apply Drawn0.step)⟩
  case round =>
    clear H'
    try clear c1
    try clear p2
    obtain ⟨x5_1, x6_1, x14_1, rfl, rfl, rfl, HA, HK1, ⟨m1, rfl⟩⟩ := hrel
    cases gk with
    | zero => exact absurd HA.out (by simp [impl_nearest.l0])
    | succ k1 =>
      have H := HA.out
      clear HA
      simp only [impl_nearest.l0] at H
      by_cases c3 : x14_1 < (l0.length : Int)
      · rw [if_pos c3] at H
        have c3b0 : decide (x14_1 < (l0.length : Int)) = true := decide_eq_true c3
        clear c3
        by_cases c4 : 0 ≤ x14_1
        · rw [if_pos c4] at H
          have c4b0 : decide (0 ≤ x14_1) = true := decide_eq_true c4
          clear c4
          by_cases c5 : x14_1 < (l0.length : Int)
          · rw [if_pos c5] at H
            have c5b0 : decide (x14_1 < (l0.length : Int)) = true := decide_eq_true c5
            clear c5
            have H' := Aside0.mk H
            clear H
            have p192 : 0 ≤ (x14_1 : Int) := of_decide_eq_true (by first | (with_reducible assumption) | assumption)
            have q192 : x14_1 < (l0.length : Int) := of_decide_eq_true (by first | (with_reducible assumption) | assumption)
            obtain ⟨ad192, A192_0, c192_0, e192, hx192_0, hl192_0, hi192_0⟩ := at_L1 HR0.out x14_1 p192 q192
            cases e192
            have HR192_0 := Aside0.mk hi192_0
            have HC192_0 := Aside0.mk hl192_0
            clear hi192_0 hl192_0
            replace p192 := eq_true p192
            replace q192 := eq_true q192
            go_wp2
            repeat (go_quiet (fail); try go_wp2)
            go_loopg [9, 21] k1 (fun kq v9 v21 w' => ∃ (x9_2 : Int) (x21_2 : Int), v9 = .int .i64 x9_2 ∧ v21 = .int .i64 x21_2 ∧ Aside0 (impl_nearest.l1 kq l1 x5_1 x6_1 x14_1 x9_2 l0 (l0.length : Int) x14_1 (rd_L1 l0 x14_1) ((rd_L1 l0 x14_1).length : Int) x21_2 = some r) ∧ Aside0 (kq ≤ k1) ∧ Drawn0 w w')
            case atStart => exact ⟨(0), (0), (by first | rfl | (simp; done) | (simp [*]; done)), (by first | rfl | (simp; done) | (simp [*]; done)), H', ⟨Nat.le_refl _⟩, by repeat (first | exact Drawn0.refl _ | apply Drawn0.step)⟩
            case round =>
              clear H'
              try clear c1
              try clear p1
              try clear q1
              try clear hx1
              try clear p2
              try clear c3
              try clear c3b0
              try clear c4
              try clear c4b0
              try clear c5
              try clear c5b0
              try clear hx192_0
              try clear p192
              try clear p2
              try clear q192
              obtain ⟨x9_2, x21_2, rfl, rfl, HA, HK2, ⟨m2, rfl⟩⟩ := hrel
              cases gk with
              | zero => exact absurd HA.out (by simp [impl_nearest.l1])
              | succ k2 =>
                have H := HA.out
                clear HA
                simp only [impl_nearest.l1] at H
                by_cases c6 : x21_2 < ((rd_L1 l0 x14_1).length : Int)
                · rw [if_pos c6] at H
                  have c6b0 : decide (x21_2 < ((rd_L1 l0 x14_1).length : Int)) = true := decide_eq_true c6
                  clear c6
                  by_cases c7 : 0 ≤ x21_2
                  · rw [if_pos c7] at H
                    have c7b0 : decide (0 ≤ x21_2) = true := decide_eq_true c7
                    clear c7
                    by_cases c8 : x21_2 < ((rd_L1 l0 x14_1).length : Int)
                    · rw [if_pos c8] at H
                      have c8b0 : decide (x21_2 < ((rd_L1 l0 x14_1).length : Int)) = true := decide_eq_true c8
                      clear c8
                      by_cases c9 : x21_2 < (l1.length : Int)
                      · rw [if_pos c9] at H
                        have c9b0 : decide (x21_2 < (l1.length : Int)) = true := decide_eq_true c9
                        clear c9
                        have H' := Aside0.mk H
                        clear H
                        have p193 : 0 ≤ (x21_2 : Int) := of_decide_eq_true (by first | (with_reducible assumption) | assumption)
                        have q193 : x21_2 < ((rd_L1 l0 x14_1).length : Int) := of_decide_eq_true (by first | (with_reducible assumption) | assumption)
                        obtain ⟨ad193, e193, hx193_0⟩ := Kd.at_int HR192_0.out x21_2 p193 q193
                        cases e193
                        replace p193 := eq_true p193
                        replace q193 := eq_true q193
                        have p194 : 0 ≤ (x21_2 : Int) := of_decide_eq_true (by first | (with_reducible assumption) | assumption)
                        have q194 : x21_2 < (l1.length : Int) := of_decide_eq_true (by first | (with_reducible assumption) | assumption)
                        obtain ⟨ad194, e194, hx194_0⟩ := Kd.at_int HR1.out x21_2 p194 q194
                        cases e194
                        replace p194 := eq_true p194
                        replace q194 := eq_true q194
                        have p195 : 0 ≤ (x21_2 : Int) := of_decide_eq_true (by first | (with_reducible assumption) | assumption)
                        have q195 : x21_2 < (l1.length : Int) := of_decide_eq_true (by first | (with_reducible assumption) | assumption)
                        obtain ⟨ad195, e195, hx195_0⟩ := Kd.at_int HR1.out x21_2 p195 q195
                        obtain rfl : ad194 = ad195 := (by injection e195)
                        replace p195 := eq_true p195
                        replace q195 := eq_true q195
                        go_wp2
                        repeat (go_quiet (fail); try go_wp2)
                        go_roundg k2
                        case measure => have := HK1.out; have := HK2.out; omega
                        case rel => exact ⟨(wrap64 (x9_2 + (wrap64 ((wrap64 ((rd (rd_L1 l0 x14_1) x21_2) - (rd l1 x21_2))) * (wrap64 ((rd (rd_L1 l0 x14_1) x21_2) - (rd l1 x21_2))))))), (wrap64 (x21_2 + 1)), (by first | rfl | (simp; done) | (simp [*]; done)), (by first | rfl | (simp; done) | (simp [*]; done)), H', ⟨by have := HK1.out; have := HK2.out; omega⟩, by repeat (first | exact Drawn0.refl _ | apply Drawn0.step)⟩
                      · rw [if_neg c9] at H
                        exact absurd H (by simp)
                    · rw [if_neg c8] at H
                      exact absurd H (by simp)
                  · rw [if_neg c7] at H
                    exact absurd H (by simp)
                · rw [if_neg c6] at H
                  have c6b0 : decide (x21_2 < ((rd_L1 l0 x14_1).length : Int)) = false := decide_eq_false c6
                  clear c6
                  by_cases c10 : x6_1 < 0
                  · rw [if_pos c10] at H
                    have c10b0 : decide (x6_1 < 0) = true := decide_eq_true c10
                    clear c10
                    have H' := Aside0.mk H
                    clear H
                    go_wp2
                    repeat (go_quiet (fail); try go_wp2)
                    go_roundg k2
                    case measure => have := HK1.out; have := HK2.out; omega
                    case rel => exact ⟨(x14_1), (x9_2), (wrap64 (x14_1 + 1)), (by first | rfl | (simp; done) | (simp [*]; done)), (by first | rfl | (simp; done) | (simp [*]; done)), (by first | rfl | (simp; done) | (simp [*]; done)), H', ⟨by have := HK1.out; have := HK2.out; omega⟩, by repeat (first | exact Drawn0.refl _ | apply Drawn0.step)⟩
                  · rw [if_neg c10] at H
                    have c10b0 : decide (x6_1 < 0) = false := decide_eq_false c10
                    clear c10
                    by_cases c11 : x9_2 < x6_1
                    · rw [if_pos c11] at H
                      have c11b0 : decide (x9_2 < x6_1) = true := decide_eq_true c11
                      clear c11
                      have H' := Aside0.mk H
                      clear H
                      go_wp2
                      repeat (go_quiet (fail); try go_wp2)
                      go_roundg k2
                      case measure => have := HK1.out; have := HK2.out; omega
                      case rel => exact ⟨(x14_1), (x9_2), (wrap64 (x14_1 + 1)), (by first | rfl | (simp; done) | (simp [*]; done)), (by first | rfl | (simp; done) | (simp [*]; done)), (by first | rfl | (simp; done) | (simp [*]; done)), H', ⟨by have := HK1.out; have := HK2.out; omega⟩, by repeat (first | exact Drawn0.refl _ | apply Drawn0.step)⟩
                    · rw [if_neg c11] at H
                      have c11b0 : decide (x9_2 < x6_1) = false := decide_eq_false c11
                      clear c11
                      have H' := Aside0.mk H
                      clear H
                      go_wp2
                      repeat (go_quiet (fail); try go_wp2)
                      go_roundg k2
                      case measure => have := HK1.out; have := HK2.out; omega
                      case rel => exact ⟨(x5_1), (x6_1), (wrap64 (x14_1 + 1)), (by first | rfl | (simp; done) | (simp [*]; done)), (by first | rfl | (simp; done) | (simp [*]; done)), (by first | rfl | (simp; done) | (simp [*]; done)), H', ⟨by have := HK1.out; have := HK2.out; omega⟩, by repeat (first | exact Drawn0.refl _ | apply Drawn0.step)⟩
          · rw [if_neg c5] at H
            exact absurd H (by simp)
        · rw [if_neg c4] at H
          exact absurd H (by simp)
      · rw [if_neg c3] at H
        have c3b0 : decide (x14_1 < (l0.length : Int)) = false := decide_eq_false c3
        clear c3
        obtain rfl := Option.some.inj H
        go_wp2
        repeat (go_quiet (fail); try go_wp2)
        go_ret
        exact ⟨by first | rfl | (simp; done) | (simp [*]; done), by repeat (first | exact Drawn0.refl _ | apply Drawn0.step)⟩

theorem impl_nearest.inner (px c : List Int) (l : List (List Int)) (hp : isPx px = true) (hc : isPx c = true) (i : Nat) (hi : i < l.length) (hi2 : l.length ≤ 4096) (best least : Int) (r : Int)
    (h : Ev (fun k => impl_nearest.l0 k px (if least < 0 ∨ dist c px < least then (i : Int) else best) (if least < 0 ∨ dist c px < least then dist c px else least) l (l.length : Int) ((i + 1 : Nat) : Int)) r) :
    Ev (fun k => impl_nearest.l1 k px best least (i : Int) 0 l (l.length : Int) (i : Int) c (c.length : Int) 0) r := by
  obtain ⟨a, b, c', rfl, ha, ha', hb, hb', hc1, hc1'⟩ := isPx_three hc
  obtain ⟨p, q, s, rfl, hp1, hp1', hq, hq', hs, hs'⟩ := isPx_three hp
  have e0 : rd [a, b, c'] 0 = a := rfl
  have e1 : rd [a, b, c'] 1 = b := rfl
  have e2 : rd [a, b, c'] 2 = c' := rfl
  have f0 : rd [p, q, s] 0 = p := rfl
  have f1 : rd [p, q, s] 1 = q := rfl
  have f2 : rd [p, q, s] 2 = s := rfl
  have b0 := sq_bound (a - p) (by omega) (by omega)
  have b1 := sq_bound (b - q) (by omega) (by omega)
  have ed : dist [a, b, c'] [p, q, s] = (a - p) * (a - p) + (b - q) * (b - q) + (c' - s) * (c' - s) := rfl
  rw [ed] at h
  refine Ev.step (fun _ => by rw [impl_nearest.l1]) (Ev.ip (by simp) (Ev.ip (by omega) (Ev.ip (by simp) (Ev.ip (by simp) ?_))))
  rw [e0, f0, sq_step 0 a p (by omega) (by omega) ha ha' hp1 hp1', w64_1, Int.zero_add]
  refine Ev.step (fun _ => by rw [impl_nearest.l1]) (Ev.ip (by simp) (Ev.ip (by omega) (Ev.ip (by simp) (Ev.ip (by simp) ?_))))
  rw [e1, f1, sq_step _ b q (by omega) (by omega) hb hb' hq hq', w64_2]
  refine Ev.step (fun _ => by rw [impl_nearest.l1]) (Ev.ip (by simp) (Ev.ip (by omega) (Ev.ip (by simp) (Ev.ip (by simp) ?_))))
  rw [e2, f2, sq_step _ c' s (by omega) (by omega) hc1 hc1' hs hs', w64_3]
  refine Ev.step (fun _ => by rw [impl_nearest.l1]) (Ev.ng (by simp) ?_)
  rw [wrap_succ i (by omega)]
  by_cases h1 : least < 0
  · rw [if_pos (.inl h1), if_pos (.inl h1)] at h
    exact Ev.ip h1 h
  · refine Ev.ng h1 ?_
    by_cases h2 : (a - p) * (a - p) + (b - q) * (b - q) + (c' - s) * (c' - s) < least
    · rw [if_pos (.inr h2), if_pos (.inr h2)] at h
      exact Ev.ip h2 h
    · rw [if_neg (by omega), if_neg (by omega)] at h
      exact Ev.ng h2 h
theorem impl_nearest.ev (l : List (List Int)) (px : List Int) (hp : isPx px = true) (hl : ∀ c ∈ l, isPx c = true) (hm : l.length ≤ 4096) : Ev (fun k => impl_nearest.f k l px) (nearGo px l 0 0 (-1)) := by
  unfold impl_nearest.f
  have key : ∀ d i : Nat, ∀ best least : Int, l.length - i = d → i ≤ l.length → Ev (fun k => impl_nearest.l0 k px best least l (l.length : Int) (i : Int)) (nearGo px (l.drop i) i best least) := by
    intro d
    induction d with
    | zero =>
      intro i best least hd hi
      refine Ev.step (fun _ => by rw [impl_nearest.l0]) (Ev.ng (by omega) (Ev.eq (Ev.now _) ?_))
      rw [List.drop_of_length_le (by omega)]; rfl
    | succ d ih =>
      intro i best least hd hi
      have hlt : i < l.length := by omega
      refine Ev.step (fun _ => by rw [impl_nearest.l0]) (Ev.ip (by omega) (Ev.ip (by omega) (Ev.ip (by omega) ?_)))
      rw [show rd_L1 l (i : Int) = l[i] by simp [rd_L1, hlt], List.drop_eq_getElem_cons hlt]
      refine impl_nearest.inner px l[i] l hp (hl _ (List.getElem_mem _)) i hlt hm best least _ (Ev.eq (ih (i + 1) _ _ (by omega) (by omega)) ?_)
      simp only [nearGo]
      by_cases h : least < 0 ∨ dist l[i] px < least
      · rw [if_pos h, if_pos h, if_pos h]; rfl
      · rw [if_neg h, if_neg h, if_neg h]; rfl
  exact key _ 0 0 (-1) rfl (by omega)

end Go.Proofs.Ytnknolppoeacbaa.G
